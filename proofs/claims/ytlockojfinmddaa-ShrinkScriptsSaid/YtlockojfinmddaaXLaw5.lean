/- What is told of a script of which it is so is so, too, and nothing can be left out of it: the walk. Conditions: none. -/
import Derived.Test.YtlockojfinmddaaXLaws
namespace Go.Proofs.Ytlockojfinmddaa.X
open Go.RowKit Go.Proofs.Ytlockojfinmddaa.PShrinkScripts Go.Proofs.YtlockojfinmddaaW.PrintWords Go.Proofs.YtlockojfinmddaaW.PrintLast Go.Proofs.YtlockojfinmddaaW.PrintMore
attribute [local go_sem high] eqA37 eqA39
set_option linter.unusedVariables false
set_option linter.unusedSimpArgs false

theorem great_walk5 (P : Qs) (A : Option Addr) (c n : Nat) (l : List S39) (w : World) (h : In w P A c n l) (hg : (decide (100 < n) || decide (10 < P.ws.length)) = true) : Calls Try.prog 5 #[.agg #[.slice P.A P.ws.length P.c, .int .i64 P.each, .int .i64 P.most], .slice A n c] w fun e w' => e = .returned (.bool true) ∧ Below w.heap.size w w' := by
  have H := Aside0.mk (h.below (ballo (Below.refl _ _) (.cells #[.slice P.A P.ws.length P.c, .int .i64 P.each, .int .i64 P.most] 24)))
  have G := Aside0.mk hg
  clear h hg
  go_enter Try.func5, Try.ntmps5
  go_wp2_with (first | (go_at_call 6; refine (great_to P A c n l true _ H.out G.out).mono ?_; rintro e w1 ⟨rfl, hB⟩; have HB1 := Aside0.mk hB; clear hB) | (go_at_call 7; refine (lives_calls _).mono ?_; rintro e w2 ⟨rfl, hB⟩; have HB2 := Aside0.mk hB; clear hB))
  go_ret
  exact ⟨rfl, bthen (bthen (ballo (Below.refl _ _) _) HB1.out) HB2.out⟩
def THREE (w0 w : World) (P : Qs) : Prop := w.cell? ⟨w0.heap.size, 0, none⟩ = some (.slice P.A P.ws.length P.c) ∧ w.cell? ⟨w0.heap.size, 1, none⟩ = some (.int .i64 P.each) ∧ w.cell? ⟨w0.heap.size, 2, none⟩ = some (.int .i64 P.most)
set_option maxHeartbeats 8000000 in
theorem least_no_walk (P : Qs) (A : Option Addr) (c n : Nat) (l : List S39) (w : World) (h : In w P A c n l) (hn : n ≤ 100) (hw : P.ws.length ≤ 10) (hh : P.h l = false) : Calls Try.prog 5 #[.agg #[.slice P.A P.ws.length P.c, .int .i64 P.each, .int .i64 P.most], .slice A n c] w fun e w' => e = .returned (.bool true) ∧ Below w.heap.size w w' := by
  have HQ := Aside0.mk (Qu.made (h.qr hw))
  have H := Aside0.mk (h.below (ballo (Below.refl _ _) (.cells #[.slice P.A P.ws.length P.c, .int .i64 P.each, .int .i64 P.most] 24)))
  have G := Aside0.mk (show (decide (100 < n) || decide (10 < P.ws.length)) = false by simp; omega)
  have HN := Aside0.mk (And.intro hn hw)
  have HL := Aside0.mk (show l.length ≤ 1000 by have := h.len; omega)
  have HH := Aside0.mk hh
  have HR := Aside0.mk (script_not P.h l hh)
  clear h hn hw hh
  go_enter Try.func5, Try.ntmps5
  go_wp2_with (first
    | (go_at_call 6; refine (great_to P A c n l false _ H.out G.out).mono ?_; rintro e w1 ⟨rfl, hB⟩; have HB1 := Aside0.mk (bthen (ballo (Below.refl _ _) _) hB); have H1 := Aside0.mk (H.out.below hB); have Q1 := Aside0.mk (HQ.out.below hB); clear hB H HQ)
    | (at_builtin; (refine Kd.R_append_rows (Rr := fun p cs => cs = [.int .i64 p.f0, .int .i64 p.f1, .int .i64 p.f2, .int .i64 p.f3.f0, .int .i64 p.f3.f1, .int .i64 p.f3.f2, .int .i64 p.f3.f3, .int .i64 p.f3.f4]) (w0 := w1) k39 w1.heap.size rfl (.tmp 13) (.tmp 14) 25 39 (.agg #[.int .i64 0, .int .i64 0, .int .i64 0, .int .i64 0, .int .i64 0, .int .i64 0, .int .i64 0, .int .i64 0]) 64 rfl Try.underlying25 info39 rfl (by decide) (by decide) _ [] l A n c (fun _ => True) (fun _ => False) rfl rfl (own39 _ _ (Nat.le_refl _)) (rows39 (by rw [← H1.out.len]; exact Kd.C_below H1.out.row (ballo (Below.refl _ _) _))) (fun p cs hp => by subst hp; exact k39_mkM _ _ _ _) (fun _ hk => hk.elim) (fun _ _ => trivial) (ballo (Below.refl _ _) _) (by simp) (by have := HN.out; simp; omega) ?_); intro v1 w5 hR hB hg hat; obtain ⟨A5, c5, rfl, _, _⟩ := Kd.R_reads hR; rw [List.nil_append] at hR ⊢; have HR5 := Aside0.mk (row_len hR); have H5 := Aside0.mk (H1.out.below hB); have Q5 := Aside0.mk (Q1.out.below hB); have HB5 := Aside0.mk (bthen HB1.out hB); have z0 : w5.cell? ⟨w.heap.size, 0, none⟩ = some (.slice P.A P.ws.length P.c) := blk_cell Q5.out.blk 0; have z1 : w5.cell? ⟨w.heap.size, 1, none⟩ = some (.int .i64 P.each) := blk_cell Q5.out.blk 1; have z2 : w5.cell? ⟨w.heap.size, 2, none⟩ = some (.int .i64 P.most) := blk_cell Q5.out.blk 2; clear hR hB hg hat)
    | (go_at_call 12; refine (asks_calls P _).mono ?_; rintro e w6 ⟨rfl, hw6⟩; have HQ6 := Aside0.mk (qu_made hw6 (H5.out.qr HN.out.2)); have HB6 := Aside0.mk (below_made hw6); obtain ⟨q6, hq6⟩ : ∃ q6, w5.heap.size = q6 := ⟨_, rfl⟩; rw [hq6] at HQ6 ⊢; clear hw6 hq6)
    | (go_at_call 11; refine (script_n (Qs.mk q6 P.A P.c P.ws P.each P.most) A c n l _ HQ6.out (H5.out.below HB6.out).row H5.out.cap HL.out H5.out.len).mono ?_; rintro e w7 hg; obtain ⟨A7, c7, rfl, hc, hC, hB⟩ := got_to HR.out hg; have HB7 := Aside0.mk (bthen HB6.out hB); have H7 := Aside0.mk (H5.out.below HB7.out); have HG7 := Aside0.mk (And.intro hc hC); have Q7 := Aside0.mk (Q5.out.below HB7.out); clear hg hc hC hB)
    | (go_at_call 9; (with_reducible refine (same_n A7 c7 l A c l.length n _ (Kd.C_below HG7.out.2 HB9.out) HG7.out.1 (H7.out.below HB9.out).row H7.out.cap HL.out rfl H7.out.len).mono ?_); rintro e w10 ⟨rfl, hB⟩; have HB10 := Aside0.mk (bthen HB9.out hB); clear hB)
    | (go_at_call 9; refine (same_n A c l A5 c5 n l.length _ H7.out.row H7.out.cap (Kd.C_below HR5.out.2.1 HB7.out) HR5.out.1 HL.out H7.out.len rfl).mono ?_; rintro e w8 ⟨rfl, hB⟩; have HB8 := Aside0.mk hB; have H8 := Aside0.mk (H7.out.below hB); have Q8 := Aside0.mk (Q7.out.below hB); have z0 : w8.cell? ⟨w.heap.size, 0, none⟩ = some (.slice P.A P.ws.length P.c) := blk_cell Q8.out.blk 0; have z1 : w8.cell? ⟨w.heap.size, 1, none⟩ = some (.int .i64 P.each) := blk_cell Q8.out.blk 1; have z2 : w8.cell? ⟨w.heap.size, 2, none⟩ = some (.int .i64 P.most) := blk_cell Q8.out.blk 2; clear hB)
    | (go_at_call 16; refine (holds_n P A c n l false _ (H8.out.qr HN.out.2) H8.out.row H8.out.cap HL.out HH.out H8.out.len).mono ?_; rintro e w9 ⟨rfl, hB⟩; have HB9 := Aside0.mk (bthen HB8.out hB); clear hB)
    | (go_at_call 7; refine (lives_calls _).mono ?_; rintro e w11 ⟨rfl, hB⟩; have HB11 := Aside0.mk (bthen HB10.out hB); clear hB))
  go_ret
  exact ⟨rfl, bthen (bthen HB5.out HB7.out) HB11.out⟩

theorem greedy_at (l m : List S39) (i a : Nat) (hi : i < l.length) (ha : a < m.length) : greedy (l.drop i) (m.drop a) = if eqS (rd_T39 l (i : Int)) (rd_T39 m (a : Int)) = true then greedy (l.drop (i + 1)) (m.drop (a + 1)) + 1 else greedy (l.drop (i + 1)) (m.drop a) := by
  rw [List.drop_eq_getElem_cons hi, List.drop_eq_getElem_cons ha, rd39 l i hi, rd39 m a ha]
  conv => lhs; unfold greedy
set_option maxRecDepth 100000 in
set_option maxHeartbeats 8000000 in
theorem least_yes_walk (P : Qs) (A : Option Addr) (c n : Nat) (l : List S39) (w : World) (h : In w P A c n l) (hn : n ≤ 100) (hw : P.ws.length ≤ 10) (hh : P.h l = true) : Calls Try.prog 5 #[.agg #[.slice P.A P.ws.length P.c, .int .i64 P.each, .int .i64 P.most], .slice A n c] w fun e w' => e = .returned (.bool true) ∧ Below w.heap.size w w' := by
  obtain ⟨m, hm⟩ : ∃ m, script P.h l = m := ⟨_, rfl⟩
  have hok := script_ok P.h l
  rw [hm] at hok
  have HQ := Aside0.mk (Qu.made (h.qr hw))
  have H := Aside0.mk (h.below (ballo (Below.refl _ _) (.cells #[.slice P.A P.ws.length P.c, .int .i64 P.each, .int .i64 P.most] 24)))
  have G := Aside0.mk (show (decide (100 < n) || decide (10 < P.ws.length)) = false by simp; omega)
  have HN := Aside0.mk (And.intro hn hw)
  have HL := Aside0.mk (show l.length ≤ 1000 by have := h.len; omega)
  have HH := Aside0.mk hh
  have HM := Aside0.mk hm
  have HML := Aside0.mk (show m.length ≤ 1000 by have := hok.1; have := h.len; omega)
  have HMH := Aside0.mk (hok.2.2 hh)
  have HG := Aside0.mk (greedy_sub l m hok.2.1)
  obtain ⟨mn, hmn⟩ : ∃ mn, m.length = mn := ⟨_, rfl⟩
  have HMN := Aside0.mk hmn
  have bn : (n : Int) ≤ 100 := by omega
  have bm : (mn : Int) ≤ 1000 := by have := HML.out; omega
  clear h hn hw hh hm hok hmn
  go_enter Try.func5, Try.ntmps5
  go_wp2_with (first
    | (go_at_call 6; refine (great_to P A c n l false _ H.out G.out).mono ?_; rintro e w1 ⟨rfl, hB⟩; have HB1 := Aside0.mk (bthen (ballo (Below.refl _ _) _) hB); have H1 := Aside0.mk (H.out.below hB); have Q1 := Aside0.mk (HQ.out.below hB); clear hB H HQ)
    | (at_builtin; (refine Kd.R_append_rows (Rr := fun p cs => cs = [.int .i64 p.f0, .int .i64 p.f1, .int .i64 p.f2, .int .i64 p.f3.f0, .int .i64 p.f3.f1, .int .i64 p.f3.f2, .int .i64 p.f3.f3, .int .i64 p.f3.f4]) (w0 := w1) k39 w1.heap.size rfl (.tmp 13) (.tmp 14) 25 39 (.agg #[.int .i64 0, .int .i64 0, .int .i64 0, .int .i64 0, .int .i64 0, .int .i64 0, .int .i64 0, .int .i64 0]) 64 rfl Try.underlying25 info39 rfl (by decide) (by decide) _ [] l A n c (fun _ => True) (fun _ => False) rfl rfl (own39 _ _ (Nat.le_refl _)) (rows39 (by rw [← H1.out.len]; exact Kd.C_below H1.out.row (ballo (Below.refl _ _) _))) (fun p cs hp => by subst hp; exact k39_mkM _ _ _ _) (fun _ hk => hk.elim) (fun _ _ => trivial) (ballo (Below.refl _ _) _) (by simp) (by have := HN.out; simp; omega) ?_); intro v1 w5 hR hB hg hat; obtain ⟨A5, c5, rfl, _, _⟩ := Kd.R_reads hR; rw [List.nil_append] at hR ⊢; have HR5 := Aside0.mk (row_len hR); have H5 := Aside0.mk (H1.out.below hB); have Q5 := Aside0.mk (Q1.out.below hB); have HB5 := Aside0.mk (bthen HB1.out hB); have z0 : w5.cell? ⟨w.heap.size, 0, none⟩ = some (.slice P.A P.ws.length P.c) := blk_cell Q5.out.blk 0; have z1 : w5.cell? ⟨w.heap.size, 1, none⟩ = some (.int .i64 P.each) := blk_cell Q5.out.blk 1; have z2 : w5.cell? ⟨w.heap.size, 2, none⟩ = some (.int .i64 P.most) := blk_cell Q5.out.blk 2; clear hR hB hg hat)
    | (go_at_call 12; refine (asks_calls P _).mono ?_; rintro e w6 ⟨rfl, hw6⟩; have HQ6 := Aside0.mk (qu_made hw6 (H5.out.qr HN.out.2)); have HB6 := Aside0.mk (below_made hw6); obtain ⟨q6, hq6⟩ : ∃ q6, w5.heap.size = q6 := ⟨_, rfl⟩; rw [hq6] at HQ6 ⊢; clear hw6 hq6)
    | (go_at_call 11; refine (script_n (Qs.mk q6 P.A P.c P.ws P.each P.most) A c n l _ HQ6.out (H5.out.below HB6.out).row H5.out.cap HL.out H5.out.len).mono ?_; rintro e w7 hg; obtain ⟨A7, c7, rfl, hc, hC, hB⟩ := got_to HM.out hg; have HB7 := Aside0.mk (bthen HB6.out hB); have H7 := Aside0.mk (H5.out.below HB7.out); have HG7 := Aside0.mk (And.intro hc hC); have Q7 := Aside0.mk (Q5.out.below HB7.out); rw [HMN.out]; clear hg hc hC hB)
    | (go_at_call 9; refine (same_n A c l A5 c5 n l.length _ H7.out.row H7.out.cap (Kd.C_below HR5.out.2.1 HB7.out) HR5.out.1 HL.out H7.out.len rfl).mono ?_; rintro e w8 ⟨rfl, hB⟩; have HB8 := Aside0.mk hB; have H8 := Aside0.mk (H7.out.below hB); have Q8 := Aside0.mk (Q7.out.below hB); have z0 : w8.cell? ⟨w.heap.size, 0, none⟩ = some (.slice P.A P.ws.length P.c) := blk_cell Q8.out.blk 0; have z1 : w8.cell? ⟨w.heap.size, 1, none⟩ = some (.int .i64 P.each) := blk_cell Q8.out.blk 1; have z2 : w8.cell? ⟨w.heap.size, 2, none⟩ = some (.int .i64 P.most) := blk_cell Q8.out.blk 2; clear hB)
    | (go_at_call 16; refine (holds_n P A c n l true _ (H8.out.qr HN.out.2) H8.out.row H8.out.cap HL.out HH.out H8.out.len).mono ?_; rintro e w9 ⟨rfl, hB⟩; have HB9 := Aside0.mk (bthen (bthen HB5.out HB7.out) (bthen HB8.out hB)); have H9 := Aside0.mk (H8.out.below hB); have Q9 := Aside0.mk (Q8.out.below hB); have HG9 := Aside0.mk (And.intro HG7.out.1 (Kd.C_below HG7.out.2 (bthen HB8.out hB))); clear hB))
  go_loopg [7, 8] n (fun kq v7 v8 w' => ∃ (a i : Int), v7 = .int .i64 a ∧ v8 = .int .i64 i ∧ 0 ≤ a ∧ a ≤ (mn : Int) ∧ 0 ≤ i ∧ i + (kq : Int) = n ∧ Aside0 (a.toNat + greedy (l.drop i.toNat) (m.drop a.toNat) = mn) ∧ Aside0 (Below w9.heap.size w9 w'))
  case atStart => exact ⟨0, 0, rfl, rfl, by omega, by omega, by omega, by omega, ⟨by have := HG.out; have := HMN.out; simpa using (by omega : greedy l m = mn)⟩, ⟨Below.refl _ _⟩⟩
  case round =>
    obtain ⟨a, i, rfl, rfl, ha0, ha1, hi0, hik, HE, HX⟩ := hrel
    by_cases hlt : i < (n : Int)
    · have hd : decide (i < (n : Int)) = true := decide_eq_true hlt
      by_cases hat : a < (mn : Int)
      · have hd2 : decide (a < (mn : Int)) = true := decide_eq_true hat
        obtain ⟨k, rfl⟩ : ∃ k, gk = k + 1 := ⟨gk - 1, by omega⟩
        have hln : l.length = n := H9.out.len
        obtain ⟨ad, ead, u0, u1, u2, u3, u4, u5, u6, u7⟩ := at_T39 (Kd.C_below H9.out.row HX.out) i hi0 (by omega)
        obtain ⟨ad2, ead2, v0, v1, v2, v3, v4, v5, v6, v7⟩ := at_T39 (Kd.C_below HG9.out.2 HX.out) a ha0 (by rw [HMN.out]; omega)
        cases ead
        cases ead2
        have p0 : (0 ≤ i) = True := eq_true hi0
        have q0 : (i < (n : Int)) = True := eq_true hlt
        have p1 : (0 ≤ a) = True := eq_true ha0
        have q1 : (a < (mn : Int)) = True := eq_true hat
        have hgr := greedy_at l m i.toNat a.toNat (by omega) (by have := HMN.out; omega)
        rw [show ((i.toNat : Nat) : Int) = i by omega, show ((a.toNat : Nat) : Int) = a by omega] at hgr
        have HE2 := HE.out
        rw [hgr] at HE2
        have HI := Aside0.mk (And.intro hi0 (And.intro hik (And.intro hlt (And.intro ha0 (And.intro ha1 hat)))))
        clear hgr hi0 hik hlt ha0 ha1 hat hln
        by_cases e : eqS (rd_T39 l i) (rd_T39 m a) = true
        · rw [if_pos e] at HE2
          have HE3 := Aside0.mk HE2
          unfold eqS at e
          clear HE2
          go_wp2_with fail
          go_quiet (fail)
          go_wp2_with fail
          go_roundg k
          case measure => omega
          case rel =>
            have hI := HI.out
            refine ⟨a + 1, i + 1, by rw [w64 (by omega) (by omega)], by rw [w64 (by omega) (by omega)], by omega, by omega, by omega, by omega, ⟨?_⟩, ⟨by repeat (first | exact HX.out | apply below_drew | apply pw_below_drewN)⟩⟩
            have := HE3.out
            rw [show (i + 1).toNat = i.toNat + 1 by omega, show (a + 1).toNat = a.toNat + 1 by omega]
            omega
        · rw [if_neg e] at HE2
          have HE3 := Aside0.mk HE2
          replace e := Bool.eq_false_iff.2 e
          unfold eqS at e
          clear HE2
          go_wp2_with fail
          go_quiet (fail)
          go_wp2_with fail
          go_roundg k
          case measure => omega
          case rel =>
            have hI := HI.out
            refine ⟨a, i + 1, rfl, by rw [w64 (by omega) (by omega)], by omega, by omega, by omega, by omega, ⟨?_⟩, ⟨by repeat (first | exact HX.out | apply below_drew | apply pw_below_drewN)⟩⟩
            have := HE3.out
            rw [show (i + 1).toNat = i.toNat + 1 by omega]
            omega
      · obtain rfl : a = (mn : Int) := by omega
        have hd2 : decide ((mn : Int) < (mn : Int)) = false := decide_eq_false (by omega)
        have HQ10 := Aside0.mk (Q9.out.below HX.out)
        have H10 := Aside0.mk (H9.out.below HX.out)
        have HC10 := Aside0.mk (Kd.C_below HG9.out.2 HX.out)
        have z0 : wr.cell? ⟨w.heap.size, 0, none⟩ = some (.slice P.A P.ws.length P.c) := blk_cell HQ10.out.blk 0; have z1 : wr.cell? ⟨w.heap.size, 1, none⟩ = some (.int .i64 P.each) := blk_cell HQ10.out.blk 1; have z2 : wr.cell? ⟨w.heap.size, 2, none⟩ = some (.int .i64 P.most) := blk_cell HQ10.out.blk 2
        clear ha0 ha1 hi0 hik hlt HE
        go_wp2_with (first
          | (go_at_call 16; refine (holds_n P A7 c7 mn m true _ (H10.out.qr HN.out.2) HC10.out HG9.out.1 HML.out HMH.out.1 HMN.out).mono ?_; rintro e w11 ⟨rfl, hB⟩; have HB11 := Aside0.mk hB; have H11 := Aside0.mk (H10.out.below hB); have Q11 := Aside0.mk (HQ10.out.below hB); have z0 : w11.cell? ⟨w.heap.size, 0, none⟩ = some (.slice P.A P.ws.length P.c) := blk_cell Q11.out.blk 0; have z1 : w11.cell? ⟨w.heap.size, 1, none⟩ = some (.int .i64 P.each) := blk_cell Q11.out.blk 1; have z2 : w11.cell? ⟨w.heap.size, 2, none⟩ = some (.int .i64 P.most) := blk_cell Q11.out.blk 2; clear hB)
          | (go_at_call 12; refine (asks_calls P _).mono ?_; rintro e w12 ⟨rfl, hw⟩; have HQ12 := Aside0.mk (qu_made hw (H11.out.qr HN.out.2)); have HB12 := Aside0.mk (bthen HB11.out (below_made hw)); obtain ⟨q12, hq12⟩ : ∃ q12, w11.heap.size = q12 := ⟨_, rfl⟩; rw [hq12] at HQ12 ⊢; clear hw hq12)
          | (go_at_call 14; refine (least_n (Qs.mk q12 P.A P.c P.ws P.each P.most) A7 c7 mn m true _ HQ12.out (Kd.C_below HC10.out HB12.out) HG9.out.1 HML.out HMN.out HMH.out.2).mono ?_; rintro e w13 ⟨rfl, hB⟩; have HB13 := Aside0.mk (bthen HB12.out hB); clear hB)
          | (go_at_call 7; refine (lives_calls _).mono ?_; rintro e w14 ⟨rfl, hB⟩; have HB14 := Aside0.mk (bthen HB13.out hB); clear hB))
        go_ret
        exact ⟨rfl, bthen HB9.out (bthen HX.out HB14.out)⟩
    · obtain rfl : a = (mn : Int) := by
        have := HE.out
        rw [List.drop_eq_nil_of_le (by have := H9.out.len; omega)] at this
        have e0 : ∀ x : List S39, greedy [] x = 0 := fun x => by cases x <;> rfl
        rw [e0] at this
        omega
      have hd : decide (i < (n : Int)) = false := decide_eq_false hlt
      have hd2 : decide ((mn : Int) < (mn : Int)) = false := decide_eq_false (by omega)
      have HQ10 := Aside0.mk (Q9.out.below HX.out)
      have H10 := Aside0.mk (H9.out.below HX.out)
      have HC10 := Aside0.mk (Kd.C_below HG9.out.2 HX.out)
      have z0 : wr.cell? ⟨w.heap.size, 0, none⟩ = some (.slice P.A P.ws.length P.c) := blk_cell HQ10.out.blk 0; have z1 : wr.cell? ⟨w.heap.size, 1, none⟩ = some (.int .i64 P.each) := blk_cell HQ10.out.blk 1; have z2 : wr.cell? ⟨w.heap.size, 2, none⟩ = some (.int .i64 P.most) := blk_cell HQ10.out.blk 2
      clear ha0 ha1 hi0 hik hlt HE
      go_wp2_with (first
        | (go_at_call 16; refine (holds_n P A7 c7 mn m true _ (H10.out.qr HN.out.2) HC10.out HG9.out.1 HML.out HMH.out.1 HMN.out).mono ?_; rintro e w11 ⟨rfl, hB⟩; have HB11 := Aside0.mk hB; have H11 := Aside0.mk (H10.out.below hB); have Q11 := Aside0.mk (HQ10.out.below hB); have z0 : w11.cell? ⟨w.heap.size, 0, none⟩ = some (.slice P.A P.ws.length P.c) := blk_cell Q11.out.blk 0; have z1 : w11.cell? ⟨w.heap.size, 1, none⟩ = some (.int .i64 P.each) := blk_cell Q11.out.blk 1; have z2 : w11.cell? ⟨w.heap.size, 2, none⟩ = some (.int .i64 P.most) := blk_cell Q11.out.blk 2; clear hB)
        | (go_at_call 12; refine (asks_calls P _).mono ?_; rintro e w12 ⟨rfl, hw⟩; have HQ12 := Aside0.mk (qu_made hw (H11.out.qr HN.out.2)); have HB12 := Aside0.mk (bthen HB11.out (below_made hw)); obtain ⟨q12, hq12⟩ : ∃ q12, w11.heap.size = q12 := ⟨_, rfl⟩; rw [hq12] at HQ12 ⊢; clear hw hq12)
        | (go_at_call 14; refine (least_n (Qs.mk q12 P.A P.c P.ws P.each P.most) A7 c7 mn m true _ HQ12.out (Kd.C_below HC10.out HB12.out) HG9.out.1 HML.out HMN.out HMH.out.2).mono ?_; rintro e w13 ⟨rfl, hB⟩; have HB13 := Aside0.mk (bthen HB12.out hB); clear hB)
        | (go_at_call 7; refine (lives_calls _).mono ?_; rintro e w14 ⟨rfl, hB⟩; have HB14 := Aside0.mk (bthen HB13.out hB); clear hB))
      go_ret
      exact ⟨rfl, bthen HB9.out (bthen HX.out HB14.out)⟩

theorem leastlaw_walk (P : Qs) (A : Option Addr) (c n : Nat) (l : List S39) (w : World) (h : In w P A c n l) : Calls Try.prog 5 #[.agg #[.slice P.A P.ws.length P.c, .int .i64 P.each, .int .i64 P.most], .slice A n c] w fun e w' => e = .returned (.bool true) ∧ Below w.heap.size w w' := by
  by_cases hg : (decide (100 < n) || decide (10 < P.ws.length)) = true
  · exact great_walk5 P A c n l w h hg
  · have hg2 : n ≤ 100 ∧ P.ws.length ≤ 10 := by simp at hg; omega
    by_cases hh : P.h l = true
    · exact least_yes_walk P A c n l w h hg2.1 hg2.2 hh
    · exact least_no_walk P A c n l w h hg2.1 hg2.2 (Bool.eq_false_iff.2 hh)
theorem scriptslaw_walk (P : Qs) (A : Option Addr) (c n : Nat) (l : List S39) (fr many : Int) (w : World) (h : In w P A c n l) : Calls Try.prog 3 #[.agg #[.slice P.A P.ws.length P.c, .int .i64 P.each, .int .i64 P.most], .slice A n c, .int .i64 fr, .int .i64 many] w fun e w' => e = .returned (.bool true) ∧ Below w.heap.size w w' := by
  by_cases hg : (decide (100 < n) || decide (10 < P.ws.length)) = true
  · exact great_walk3 P A c n l fr many w h hg
  · have hg2 : n ≤ 100 ∧ P.ws.length ≤ 10 := by simp at hg; omega
    exact scripts_walk P A c n l fr many w h hg2.1 hg2.2
theorem leastslaw_walk (P : Qs) (A : Option Addr) (c n : Nat) (l : List S39) (w : World) (h : In w P A c n l) : Calls Try.prog 4 #[.agg #[.slice P.A P.ws.length P.c, .int .i64 P.each, .int .i64 P.most], .slice A n c] w fun e w' => e = .returned (.bool true) ∧ Below w.heap.size w w' := by
  by_cases hg : (decide (100 < n) || decide (10 < P.ws.length)) = true
  · exact great_walk4 P A c n l w h hg
  · have hg2 : n ≤ 100 ∧ P.ws.length ≤ 10 := by simp at hg; omega
    exact leasts_walk P A c n l w h hg2.1 hg2.2

end Go.Proofs.Ytlockojfinmddaa.X

/- Of any script, and any question, what is told is as the document says: the walks of the laws ShrinkScripts and ShrinkLeasts. Conditions: none. -/
import Derived.Test.YtlockojfinmddaaXOpen
namespace Go.Proofs.Ytlockojfinmddaa.X
open Go.RowKit Go.Proofs.Ytlockojfinmddaa.PShrinkScripts Go.Proofs.YtlockojfinmddaaW.PrintWords Go.Proofs.YtlockojfinmddaaW.PrintLast Go.Proofs.YtlockojfinmddaaW.PrintMore
set_option linter.unusedVariables false
set_option linter.unusedSimpArgs false

/-- What came in: a question, and a row of entries. -/
structure In (w : World) (P : Qs) (A : Option Addr) (c n : Nat) (l : List S39) : Prop where
  q : Kd.C (Kd.int .i64) w P.A P.ws.length P.ws
  qc : P.ws.length ≤ P.c
  row : Kd.C k39 w A l.length l
  cap : l.length ≤ c
  len : l.length = n
theorem In.below {w w' : World} {P : Qs} {A : Option Addr} {c n : Nat} {l : List S39} (h : In w P A c n l) (hb : Below w.heap.size w w') : In w' P A c n l := ⟨Kd.C_below h.q hb, h.qc, Kd.C_below h.row hb, h.cap, h.len⟩
theorem In.qr {w : World} {P : Qs} {A : Option Addr} {c n : Nat} {l : List S39} (h : In w P A c n l) (hw : P.ws.length ≤ 10) : Qr w P := ⟨h.q, h.qc, by omega⟩
theorem great_to (P : Qs) (A : Option Addr) (c n : Nat) (l : List S39) (r : Bool) (w : World) (h : In w P A c n l) (hr : (decide (100 < n) || decide (10 < P.ws.length)) = r) : Calls Try.prog 6 #[.agg #[.slice P.A P.ws.length P.c, .int .i64 P.each, .int .i64 P.most], .slice A n c] w fun e w' => e = .returned (.bool r) ∧ Below w.heap.size w w' := by
  have hn := h.len
  subst hn
  refine assartlaw37_great.calls P.A P.c P.ws P.each P.most A c l r w h.q h.qc h.row h.cap ?_
  unfold assartlaw37_great.f
  subst hr
  by_cases c0 : 100 < l.length
  · rw [if_pos (by omega)]; simp [c0]
  · rw [if_neg (by omega)]; simp [c0]; omega
theorem script_n (P : Qs) (A : Option Addr) (c n : Nat) (l : List S39) (w : World) (hq : Qu w P) (hC : Kd.C k39 w A l.length l) (hc : l.length ≤ c) (hl : l.length ≤ 1000) (hn : l.length = n) : Calls Try.prog 11 #[.slice A n c, P.fn] w (Got w (script P.h l)) := by
  subst hn
  exact script_calls P A c l w hq hC hc hl
theorem rscript_n (P : Qs) (A : Option Addr) (c n : Nat) (l : List S39) (w : World) (hq : Qr w P) (hC : Kd.C k39 w A l.length l) (hc : l.length ≤ c) (hl : l.length ≤ 1000) (hn : l.length = n) : Calls Try.prog 13 #[.agg #[.slice P.A P.ws.length P.c, .int .i64 P.each, .int .i64 P.most], .slice A n c] w (Got w (script P.h l)) := by
  subst hn
  exact rscript_calls P A c l w hq hC hc hl
theorem great_walk3 (P : Qs) (A : Option Addr) (c n : Nat) (l : List S39) (fr many : Int) (w : World) (h : In w P A c n l) (hg : (decide (100 < n) || decide (10 < P.ws.length)) = true) : Calls Try.prog 3 #[.agg #[.slice P.A P.ws.length P.c, .int .i64 P.each, .int .i64 P.most], .slice A n c, .int .i64 fr, .int .i64 many] w fun e w' => e = .returned (.bool true) ∧ Below w.heap.size w w' := by
  have H := Aside0.mk (h.below (ballo (Below.refl _ _) (.cells #[.slice P.A P.ws.length P.c, .int .i64 P.each, .int .i64 P.most] 24)))
  have G := Aside0.mk hg
  clear h hg
  go_enter Try.func3, Try.ntmps3
  go_wp2_with (first | (go_at_call 6; refine (great_to P A c n l true _ H.out G.out).mono ?_; rintro e w1 ⟨rfl, hB⟩; have HB1 := Aside0.mk hB; clear hB) | (go_at_call 7; refine (lives_calls _).mono ?_; rintro e w2 ⟨rfl, hB⟩; have HB2 := Aside0.mk hB; clear hB))
  go_ret
  exact ⟨rfl, bthen (bthen (ballo (Below.refl _ _) _) HB1.out) HB2.out⟩
set_option maxHeartbeats 8000000 in
theorem scripts_walk (P : Qs) (A : Option Addr) (c n : Nat) (l : List S39) (fr many : Int) (w : World) (h : In w P A c n l) (hn : n ≤ 100) (hw : P.ws.length ≤ 10) : Calls Try.prog 3 #[.agg #[.slice P.A P.ws.length P.c, .int .i64 P.each, .int .i64 P.most], .slice A n c, .int .i64 fr, .int .i64 many] w fun e w' => e = .returned (.bool true) ∧ Below w.heap.size w w' := by
  have HQ := Aside0.mk (Qu.made (h.qr hw))
  have H := Aside0.mk (h.below (ballo (Below.refl _ _) (.cells #[.slice P.A P.ws.length P.c, .int .i64 P.each, .int .i64 P.most] 24)))
  have G := Aside0.mk (show (decide (100 < n) || decide (10 < P.ws.length)) = false by simp; omega)
  have HN := Aside0.mk (And.intro hn hw)
  obtain ⟨m, hm⟩ : ∃ m, m = wout l fr many := ⟨_, rfl⟩
  have HM := Aside0.mk hm
  have HML := Aside0.mk (show m.length ≤ 1000 by rw [hm]; have := wout_len l fr many; have := h.len; omega)
  obtain ⟨r, hr⟩ : ∃ r, script P.h l = r := ⟨_, rfl⟩
  have HR := Aside0.mk hr
  have HRL := Aside0.mk (show r.length ≤ 1000 by rw [← hr]; have := (script_ok P.h l).1; have := h.len; omega)
  clear h hn hw hm hr
  go_enter Try.func3, Try.ntmps3
  go_wp2_with (go_at_call 6; refine (great_to P A c n l false _ H.out G.out).mono ?_; rintro e w1 ⟨rfl, hB⟩; have HB1 := Aside0.mk (bthen (ballo (Below.refl _ _) _) hB); have H1 := Aside0.mk (H.out.below hB); have Q1 := Aside0.mk (HQ.out.below hB); clear hB)
  have KS : Aside0 (∀ w', Below w1.heap.size w1 w' → (w'.cell? ⟨w.heap.size, 0, none⟩ = some (.slice P.A P.ws.length P.c) ∧ w'.cell? ⟨w.heap.size, 1, none⟩ = some (.int .i64 P.each) ∧ w'.cell? ⟨w.heap.size, 2, none⟩ = some (.int .i64 P.most))) := ⟨fun w' hb => (Q1.out.below hb).three⟩
  have HX := Aside0.mk (below_drew (Below.refl w1.heap.size w1))
  have HX0 := HX
  clear H HQ
  go_region_held3 (fun w' => w'.cell? ⟨w.heap.size, 0, none⟩ = some (.slice P.A P.ws.length P.c) ∧ w'.cell? ⟨w.heap.size, 1, none⟩ = some (.int .i64 P.each) ∧ w'.cell? ⟨w.heap.size, 2, none⟩ = some (.int .i64 P.most))
    (first | (with_reducible exact KS.out _ HX.out) | (with_reducible exact KS.out _ (ballo HX.out _)) | exact KS.out _ HX.out | exact KS.out _ (ballo HX.out _))
    (first
      | (go_at_call 8; refine (without_n A c n l fr many m _ (Kd.C_below H1.out.row HX0.out) H1.out.cap (by have := HN.out; have := H1.out.len; omega) HM.out H1.out.len).mono ?_; rintro e w2 ⟨A2, c2, rfl, hR, hB⟩; have HR2 := Aside0.mk (row_len hR); clear hR; have HX := Aside0.mk (bthen HX0.out hB); have HX2 := HX; clear hB)
      | (go_at_call 10; refine (rwithout_n A c n l fr many m _ (Kd.C_below H1.out.row HX2.out) H1.out.cap (by have := HN.out; have := H1.out.len; omega) HM.out H1.out.len).mono ?_; rintro e w3 ⟨A3, c3, rfl, hR, hB⟩; have HR3 := Aside0.mk (row_len hR); have HB3 := Aside0.mk hB; clear hR; have HX := Aside0.mk (bthen HX2.out hB); have HX3 := HX; clear hB)
      | (go_at_call 9; refine (same_calls A6 c6 r A7 c7 _ (Kd.C_below HG6.out.2 HB7.out) HG6.out.1 HG7.out.2 HG7.out.1 (by have := HRL.out; omega)).mono ?_; rintro e w8 ⟨rfl, hB⟩; have HX := Aside0.mk (bthen HX7.out hB); have HX8 := HX; clear hB)
      | (go_at_call 9; refine (same_calls A2 c2 m A3 c3 _ (Kd.C_below HR2.out.2.1 HB3.out) HR2.out.1 HR3.out.2.1 HR3.out.1 (by have := HML.out; omega)).mono ?_; rintro e w4 ⟨rfl, hB⟩; have HX := Aside0.mk (bthen HX3.out hB); have HX4 := HX; clear hB)
      | ((refine Kd.R_append_rows_step (Rr := fun p cs => cs = [.int .i64 p.f0, .int .i64 p.f1, .int .i64 p.f2, .int .i64 p.f3.f0, .int .i64 p.f3.f1, .int .i64 p.f3.f2, .int .i64 p.f3.f3, .int .i64 p.f3.f4]) (w0 := w1) k39 w1.heap.size (by rfl) (.tmp 23) (.tmp 24) 25 39 (.agg #[.int .i64 0, .int .i64 0, .int .i64 0, .int .i64 0, .int .i64 0, .int .i64 0, .int .i64 0, .int .i64 0]) 64 (by rfl) Try.underlying25 info39 rfl (by decide) (by decide) _ [] l A n c (fun _ => True) (fun _ => False) (by rfl) (by rfl) (own39 _ _ HX4.out.size) (rows39 (by rw [← H1.out.len]; exact Kd.C_below H1.out.row (ballo HX4.out _))) (fun p cs hp => by subst hp; exact k39_mkM _ _ _ _) (fun _ hk => hk.elim) (fun _ _ => trivial) (ballo HX4.out _) ((ballo HX4.out _).size) (by have := HN.out; simp; omega) ?_); intro v1 w5 hR hB hg hat; obtain ⟨A5, c5, rfl, _, _⟩ := Kd.R_reads hR; rw [List.nil_append] at hR ⊢; have HX := Aside0.mk hB; have HX5 := HX; have HR5 := Aside0.mk (row_len hR); clear hR hB hg hat)
      | (go_at_call 12; refine (asks_calls P _).mono ?_; rintro e w6 ⟨rfl, hw6⟩; have HQ6 := Aside0.mk (qu_made hw6 ((H1.out.below HX5.out).qr HN.out.2)); have HB6 := Aside0.mk (below_made hw6); have HX := Aside0.mk (bthen HX5.out HB6.out); have HX6 := HX; obtain ⟨q6, hq6⟩ : ∃ q6, w5.heap.size = q6 := ⟨_, rfl⟩; rw [hq6] at HQ6 ⊢; clear hw6 hq6)
      | (go_at_call 11; refine (script_n (Qs.mk q6 P.A P.c P.ws P.each P.most) A5 c5 l.length l _ HQ6.out (Kd.C_below HR5.out.2.1 HB6.out) HR5.out.1 (by have := HN.out; have := H1.out.len; omega) rfl).mono ?_; rintro e w7 hg; obtain ⟨A6, c6, rfl, hc, hC, hB⟩ := got_to HR.out hg; have HG6 := Aside0.mk (And.intro hc hC); clear hg hc hC; have HX := Aside0.mk (bthen HX6.out hB); have HX61 := HX; clear hB)
      | (go_at_call 13; refine (rscript_n P A c n l _ ((H1.out.below HX61.out).qr HN.out.2) (Kd.C_below H1.out.row HX61.out) H1.out.cap (by have := HN.out; have := H1.out.len; omega) H1.out.len).mono ?_; rintro e w71 hg; obtain ⟨A7, c7, rfl, hc, hC, hB⟩ := got_to HR.out hg; have HG7 := Aside0.mk (And.intro hc hC); have HB7 := Aside0.mk hB; clear hg hc hC; have HX := Aside0.mk (bthen HX61.out hB); have HX7 := HX; clear hB)
      | (go_at_call 7; refine (lives_calls _).mono ?_; rintro e w9 ⟨rfl, hB⟩; have HX := Aside0.mk (bthen HX8.out hB); have HX9 := HX; clear hB))

  go_wp2_with fail
  go_ret
  exact ⟨rfl, bthen HB1.out HX.out⟩

theorem least_n (P : Qs) (A : Option Addr) (c n : Nat) (l : List S39) (r : Bool) (w : World) (hq : Qu w P) (hC : Kd.C k39 w A l.length l) (hc : l.length ≤ c) (hl : l.length ≤ 1000) (hn : l.length = n) (hr : leastB P.h l = r) : Calls Try.prog 14 #[.slice A n c, P.fn] w fun e w' => e = .returned (.bool r) ∧ Below w.heap.size w w' := by
  subst hn hr
  exact least_calls P A c l w hq hC hc hl
theorem rleast_n (P : Qs) (A : Option Addr) (c n : Nat) (l : List S39) (r : Bool) (w : World) (hq : Qr w P) (hC : Kd.C k39 w A l.length l) (hc : l.length ≤ c) (hl : l.length ≤ 1000) (hn : l.length = n) (hr : leastB P.h l = r) : Calls Try.prog 15 #[.agg #[.slice P.A P.ws.length P.c, .int .i64 P.each, .int .i64 P.most], .slice A n c] w fun e w' => e = .returned (.bool r) ∧ Below w.heap.size w w' := by
  subst hn hr
  exact rleast_calls P A c l w hq hC hc hl
theorem none_n (A : Option Addr) (c n : Nat) (l : List S39) (w : World) (hC : Kd.C k39 w A l.length l) (hl : l.length ≤ 1000) (hn : l.length = n) : Calls Try.prog 11 #[.slice A n c, .nilFunc] w (Got w l) := by
  subst hn
  exact none_calls A c l w hC hl
theorem least_none_n (A : Option Addr) (c n : Nat) (l : List S39) (w : World) (hn : l.length = n) : Calls Try.prog 14 #[.slice A n c, .nilFunc] w fun e w' => e = .returned (.bool false) ∧ Below w.heap.size w w' := by
  subst hn
  exact least_none A c l w
theorem same_n (A1 : Option Addr) (c1 : Nat) (l : List S39) (A2 : Option Addr) (c2 n1 n2 : Nat) (w : World) (h1 : Kd.C k39 w A1 l.length l) (hc1 : l.length ≤ c1) (h2 : Kd.C k39 w A2 l.length l) (hc2 : l.length ≤ c2) (hl : l.length ≤ 1000) (e1 : l.length = n1) (e2 : l.length = n2) : Calls Try.prog 9 #[.slice A1 n1 c1, .slice A2 n2 c2] w fun e w' => e = .returned (.bool true) ∧ Below w.heap.size w w' := by
  subst e1 e2
  exact same_calls A1 c1 l A2 c2 w h1 hc1 h2 hc2 (by omega)
theorem great_walk4 (P : Qs) (A : Option Addr) (c n : Nat) (l : List S39) (w : World) (h : In w P A c n l) (hg : (decide (100 < n) || decide (10 < P.ws.length)) = true) : Calls Try.prog 4 #[.agg #[.slice P.A P.ws.length P.c, .int .i64 P.each, .int .i64 P.most], .slice A n c] w fun e w' => e = .returned (.bool true) ∧ Below w.heap.size w w' := by
  have H := Aside0.mk (h.below (ballo (Below.refl _ _) (.cells #[.slice P.A P.ws.length P.c, .int .i64 P.each, .int .i64 P.most] 24)))
  have G := Aside0.mk hg
  clear h hg
  go_enter Try.func4, Try.ntmps4
  go_wp2_with (first | (go_at_call 6; refine (great_to P A c n l true _ H.out G.out).mono ?_; rintro e w1 ⟨rfl, hB⟩; have HB1 := Aside0.mk hB; clear hB) | (go_at_call 7; refine (lives_calls _).mono ?_; rintro e w2 ⟨rfl, hB⟩; have HB2 := Aside0.mk hB; clear hB))
  go_ret
  exact ⟨rfl, bthen (bthen (ballo (Below.refl _ _) _) HB1.out) HB2.out⟩
set_option maxHeartbeats 8000000 in
theorem leasts_walk (P : Qs) (A : Option Addr) (c n : Nat) (l : List S39) (w : World) (h : In w P A c n l) (hn : n ≤ 100) (hw : P.ws.length ≤ 10) : Calls Try.prog 4 #[.agg #[.slice P.A P.ws.length P.c, .int .i64 P.each, .int .i64 P.most], .slice A n c] w fun e w' => e = .returned (.bool true) ∧ Below w.heap.size w w' := by
  have HQ := Aside0.mk (Qu.made (h.qr hw))
  have H := Aside0.mk (h.below (ballo (Below.refl _ _) (.cells #[.slice P.A P.ws.length P.c, .int .i64 P.each, .int .i64 P.most] 24)))
  have G := Aside0.mk (show (decide (100 < n) || decide (10 < P.ws.length)) = false by simp; omega)
  have HN := Aside0.mk (And.intro hn hw)
  have HL := Aside0.mk (show l.length ≤ 1000 by have := h.len; omega)
  obtain ⟨r, hr⟩ : ∃ r, leastB P.h l = r := ⟨_, rfl⟩
  have HR := Aside0.mk hr
  clear h hn hw hr
  go_enter Try.func4, Try.ntmps4
  go_wp2_with (go_at_call 6; refine (great_to P A c n l false _ H.out G.out).mono ?_; rintro e w1 ⟨rfl, hB⟩; have HB1 := Aside0.mk (bthen (ballo (Below.refl _ _) _) hB); have H1 := Aside0.mk (H.out.below hB); have Q1 := Aside0.mk (HQ.out.below hB); clear hB)
  have KS : Aside0 (∀ w', Below w1.heap.size w1 w' → (w'.cell? ⟨w.heap.size, 0, none⟩ = some (.slice P.A P.ws.length P.c) ∧ w'.cell? ⟨w.heap.size, 1, none⟩ = some (.int .i64 P.each) ∧ w'.cell? ⟨w.heap.size, 2, none⟩ = some (.int .i64 P.most))) := ⟨fun w' hb => (Q1.out.below hb).three⟩
  have HX := Aside0.mk (below_drew (Below.refl w1.heap.size w1))
  have HX0 := HX
  clear H HQ
  go_region_held3 (fun w' => w'.cell? ⟨w.heap.size, 0, none⟩ = some (.slice P.A P.ws.length P.c) ∧ w'.cell? ⟨w.heap.size, 1, none⟩ = some (.int .i64 P.each) ∧ w'.cell? ⟨w.heap.size, 2, none⟩ = some (.int .i64 P.most))
    (first | (with_reducible exact KS.out _ HX.out) | (with_reducible exact KS.out _ (ballo HX.out _)) | exact KS.out _ HX.out | exact KS.out _ (ballo HX.out _))
    (first
      | (go_at_call 14; (with_reducible refine (least_none_n A c n l _ H1.out.len).mono ?_); rintro e w5 ⟨rfl, hB⟩; have HX := Aside0.mk (bthen HX3.out hB); have HX4 := HX; clear hB)
      | (go_at_call 14; refine (least_n (Qs.mk q2 P.A P.c P.ws P.each P.most) A c n l r _ HQ2.out (Kd.C_below H1.out.row HX1.out) H1.out.cap HL.out H1.out.len HR.out).mono ?_; rintro e w3 ⟨rfl, hB⟩; have HX := Aside0.mk (bthen HX1.out hB); have HX2 := HX; clear hB)
      | (go_at_call 15; refine (rleast_n P A c n l r _ ((H1.out.below HX2.out).qr HN.out.2) (Kd.C_below H1.out.row HX2.out) H1.out.cap HL.out H1.out.len HR.out).mono ?_; rintro e w4 ⟨rfl, hB⟩; have HX := Aside0.mk (bthen HX2.out hB); have HX3 := HX; clear hB)
      | (go_at_call 11; refine (none_n A c n l _ (Kd.C_below H1.out.row HX4.out) HL.out H1.out.len).mono ?_; rintro e w6 ⟨A6, c6, rfl, hc, hC, hB⟩; have HG6 := Aside0.mk (And.intro hc hC); clear hc hC; have HX := Aside0.mk (bthen HX4.out hB); have HX5 := HX; clear hB)
      | (go_at_call 9; refine (same_n A6 c6 l A c l.length n _ HG6.out.2 HG6.out.1 (Kd.C_below H1.out.row HX5.out) H1.out.cap HL.out rfl H1.out.len).mono ?_; rintro e w7 ⟨rfl, hB⟩; have HX := Aside0.mk (bthen HX5.out hB); have HX6 := HX; clear hB)
      | (go_at_call 7; refine (lives_calls _).mono ?_; rintro e w9 ⟨rfl, hB⟩; have HX := Aside0.mk (bthen HX6.out hB); have HX7 := HX; clear hB)
      | (go_at_call 12; refine (asks_calls P _).mono ?_; rintro e w2 ⟨rfl, hw2⟩; have HQ2 := Aside0.mk (qu_made hw2 ((H1.out.below HX0.out).qr HN.out.2)); have HX := Aside0.mk (bthen HX0.out (below_made hw2)); have HX1 := HX; obtain ⟨q2, hq2⟩ : ∃ q2, w1.drew.heap.size = q2 := ⟨_, rfl⟩; rw [hq2] at HQ2 ⊢; clear hw2 hq2))

  go_wp2_with fail
  go_ret
  exact ⟨rfl, bthen HB1.out HX.out⟩

end Go.Proofs.Ytlockojfinmddaa.X

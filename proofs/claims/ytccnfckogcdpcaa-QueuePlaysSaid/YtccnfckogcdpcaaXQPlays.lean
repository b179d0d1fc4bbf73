/- Of any steps each answer is as the document says: the walk. Conditions: none. -/
import Derived.Test.YtccnfckogcdpcaaXRefQ
namespace Go.Proofs.Ytccnfckogcdpcaa.X
open Go.Conc Go.RowKit Go.Proofs.YtccnfckogcdpcaaW.PrintWords
set_option linter.unusedVariables false
set_option linter.unusedSimpArgs false
def ActsAt (w : World) (A : Option Addr) (n : Nat) : Prop := 0 < n → ∃ ad : Addr, A = some ad ∧ ∀ i, i < n → ∀ j, j < 2 → ∃ v : Int, w.cell? (ad.add (i * 2 + j)) = some (.int .i64 v)
theorem ActsAt.below {w w' : World} {A : Option Addr} {n : Nat} (h : ActsAt w A n) (hb : Below w.heap.size w w') : ActsAt w' A n := by
  intro hn
  obtain ⟨ad, e, hc⟩ := h hn
  refine ⟨ad, e, fun i hi j hj => ?_⟩
  obtain ⟨v, hv⟩ := hc i hi j hj
  exact ⟨v, pw_cell_below hb hv⟩
theorem act_at {w v v' : World} {ad a : Addr} {n : Nat} {i : Int} {P : Prop} {x : Int} (h : ActsAt w (some ad) n) (hb : Below w.heap.size w v') (hi : 0 ≤ i ∧ P ∧ i < (n : Int)) (hx : v.cell? ⟨(ad.add (i.toNat * 2)).block, (ad.add (i.toNat * 2)).off + 1, none⟩ = some (.int .i64 x)) (hv : Below w.heap.size w v) : v'.cell? ⟨(ad.add (i.toNat * 2)).block, (ad.add (i.toNat * 2)).off + 1, none⟩ = some (.int .i64 x) := by
  obtain ⟨ad', e, hc⟩ := h (by omega)
  cases e
  obtain ⟨y, hy⟩ := hc i.toNat (by omega) 1 (by omega)
  have h1 := pw_cell_below hv hy
  rw [add_field _ _ _ (by omega)] at h1
  rw [h1] at hx
  have h2 := pw_cell_below hb hy
  rw [add_field _ _ _ (by omega)] at h2
  rw [h2]; exact hx
theorem qplays_long (A : Option Addr) (n cp : Nat) (room : Int) (w : World) (h : 200 < (n : Int)) : Calls Try.prog 4 #[.int .i64 room, .slice A n cp] w fun e w' => e = .returned (.bool true) ∧ Below w.heap.size w w' := by
  have b0 : decide ((200 : Int) < (n : Int)) = true := decide_eq_true h
  clear h
  go_enter Try.func4, Try.ntmps4
  go_wp2_with (go_at_call 6; refine (lives_calls _).mono ?_; rintro e w9 ⟨rfl, hB⟩)
  go_ret
  exact ⟨rfl, hB⟩
set_option maxRecDepth 100000 in
set_option maxHeartbeats 8000000 in
theorem qplays_walk (A : Option Addr) (n cp : Nat) (room : Int) (w : World) (hn : n ≤ 200) (hA : ActsAt w A n) : Calls Try.prog 4 #[.int .i64 room, .slice A n cp] w fun e w' => e = .returned (.bool true) ∧ Below w.heap.size w w' := by
  have b0 : decide ((200 : Int) < (n : Int)) = false := decide_eq_false (by omega)
  have HA := Aside0.mk hA
  have HN := Aside0.mk hn
  obtain ⟨C, eC⟩ : ∃ C, C = capOf room := ⟨_, rfl⟩
  clear hA hn
  go_enter Try.func4, Try.ntmps4
  go_wp2_with first | (go_at_call 12; refine (new_calls room w).mono ?_; rintro _ w1 ⟨q, g, hq, hg, rfl, h1, hb1⟩) | (go_at_call 13; refine (new_ref room w1).mono ?_; rintro _ w2 ⟨rfl, h2, hb2⟩)
  rw [← eC] at h1 h2
  obtain ⟨r, er⟩ : ∃ r, r = w1.heap.size := ⟨_, rfl⟩
  have H1 := Aside0.mk (show q < r ∧ g < r ∧ w.heap.size ≤ q ∧ w.heap.size ≤ g ∧ w.heap.size ≤ r by rw [er]; exact ⟨h1.lq, h1.lg, hq, hg, hb1.size⟩)
  have H2 := Aside0.mk (And.intro (h1.after hb2) (And.intro h2 (hb1.trans (hb2.mono hb1.size))))
  rw [← er] at *
  clear hq hg h1 hb1 h2 hb2 eC er
  go_loopg [7] n (fun kq v7 w' => ∃ (i : Int) (l : List Int) (m : Int), v7 = .int .i64 i ∧ 0 ≤ i ∧ i + (kq : Int) = n ∧ Aside0 (Qu w' q g C (l.map (Value.int .i64)) m) ∧ Aside0 (Rq w' r l (C : Int) m) ∧ Aside0 (l.length ≤ C ∧ (l.length : Int) ≤ i) ∧ Below w.heap.size w w')
  case atStart => exact ⟨0, [], 0, rfl, by omega, by omega, ⟨H2.out.1⟩, ⟨by have := H2.out.2.1; exact this⟩, ⟨by simp⟩, H2.out.2.2⟩
  case round =>
    obtain ⟨i, l, m, rfl, hi0, hik, HQ, HR, HL, hbel⟩ := hrel
    by_cases hlt : i < (n : Int)
    · have hd : decide (i < (n : Int)) = true := decide_eq_true hlt
      obtain ⟨gk, rfl⟩ : ∃ k, gk = k + 1 := ⟨gk - 1, by omega⟩
      obtain ⟨ad, ead, hc⟩ := (HA.out.below hbel) (by omega)
      cases ead
      obtain ⟨k, hk⟩ := hc i.toNat (by omega) 0 (by omega)
      obtain ⟨x, hx⟩ := hc i.toNat (by omega) 1 (by omega)
      have p0 : (0 ≤ i) = True := eq_true hi0
      have q0 : (i < (n : Int)) = True := eq_true hlt
      rw [Nat.add_zero] at hk
      rw [add_field _ _ _ (by omega)] at hx
      have HK := Aside0.mk hk
      have hx0 := Aside0.mk hx
      have HI := Aside0.mk (And.intro hi0 (And.intro hik hlt))
      clear hi0 hik hlt hc
      by_cases e0 : k = 0
      · have b2 : (k == 0) = true := beq_iff_eq.2 e0
        clear e0
        have hx2 := hx
        clear hx
        obtain ⟨f1, HX⟩ : True ∧ Aside0 (ActsAt w (some ad) n) := ⟨trivial, HA⟩
        have hx := hx2
        go_wp2_with first | (go_at_call 14; go_loud (refine (put_calls HQ.out x).mono ?_; rintro _ w3 ⟨rfl, k3, h3⟩; have B3 := Keep.below hbel k3 hbel.size H1.out.2.2.1 H1.out.2.2.2.1; have hx3 := act_at (a := ad) HA.out B3 HI.out hx hbel)) | (go_at_call 15; refine (rput_calls (HR.out.keep k3 H1.out.1 H1.out.2.1) x (by have := HL.out.2; have := HI.out; have := HN.out; omega)).mono ?_; rintro _ w4 ⟨rfl, k4, h4⟩)
        obtain ⟨A4, c4, h40⟩ := h4
        have H4 := Aside0.mk h40
        have KS : Aside0 (∀ w', Below w4.heap.size w4 w' → (w'.cell? ⟨r, 0, none⟩ = some (.slice A4 (qp C l x).length c4) ∧ w'.cell? ⟨r, 2, none⟩ = some (.int .i64 (qm C l m)))) := ⟨fun w' hb => ⟨(h40.after hb).c0, (h40.after hb).c2⟩⟩
        have BW := Aside0.mk (below_drew (Below.refl w4.heap.size w4))
        have HQ4 := Aside0.mk (h3.keep k4 (by have := H1.out.1; omega) (by have := H1.out.1; omega) (by have := H1.out.2.1; omega) (by have := H1.out.2.1; omega))
        have hL : (((List.map (Value.int .i64) (qp C l x)).length : Nat) : Int) = ((qp C l x).length : Int) := by rw [List.length_map]
        clear h40
        go_region_held3 (fun w' => w'.cell? ⟨r, 0, none⟩ = some (.slice A4 (qp C l x).length c4) ∧ w'.cell? ⟨r, 2, none⟩ = some (.int .i64 (qm C l m)))
          (first | (with_reducible exact KS.out _ BW.out) | exact KS.out _ BW.out)
          (first | (go_at_call 20; refine (len_calls (HQ4.out.after (below_drew (Below.refl w4.heap.size w4)))).mono ?_; rintro _ vv ⟨rfl, ev⟩; obtain rfl := ev.symm; rw [hL]) | (go_at_call 21; refine (missed_calls (HQ4.out.after (below_drew (Below.refl w4.heap.size w4)))).mono ?_; rintro _ vv ⟨rfl, ev⟩; obtain rfl := ev.symm))
        go_wp2_with fail
        go_roundg gk
        case measure => have := HI.out; omega
        case rel =>
          have hI := HI.out
          have hN := HN.out
          have hL0 := HL.out
          refine ⟨i + 1, qp C l x, qm C l m, ?_, by omega, by omega, ⟨HQ4.out.after BW.out⟩, ⟨⟨A4, c4, H4.out.after BW.out⟩⟩, ⟨?_⟩, bthen (Keep.below B3 k4 B3.size H1.out.2.2.2.2 H1.out.2.2.2.2) BW.out⟩
          · congr 1; first | rfl | rw [IntWalk.wrap64_in _ (by omega)] | rw [IntWalk.i64_in _ (by omega)]
          · unfold qp; split
            · rw [List.length_append]; simp; omega
            · omega
      · have b20 : (k == 0) = false := beq_eq_false_iff_ne.2 e0
        clear e0
        by_cases e1 : k = 1
        · have b21 : (k == 1) = true := beq_iff_eq.2 e1
          clear e1
          have hx2 := hx
          clear hx
          obtain ⟨f1, HX⟩ : True ∧ Aside0 (ActsAt w (some ad) n) := ⟨trivial, HA⟩
          have hx := hx2
          obtain ⟨y, ey⟩ : ∃ y, y = l.headD 0 := ⟨_, rfl⟩
          have HY := Aside0.mk ey
          clear ey
          go_wp2_with first | (go_at_call 16; go_loud (refine (take_calls HQ.out).mono ?_; rw [← HY.out]; rintro _ w3 ⟨rfl, k3, h3⟩; have B3 := Keep.below hbel k3 hbel.size H1.out.2.2.1 H1.out.2.2.2.1)) | (go_at_call 17; refine (rtake_calls (HR.out.keep k3 H1.out.1 H1.out.2.1) (by have := HL.out.2; have := HI.out; have := HN.out; omega)).mono ?_; rw [← HY.out]; rintro _ w4 ⟨rfl, k4, h4⟩)
          obtain ⟨A4, c4, h40⟩ := h4
          have H4 := Aside0.mk h40
          have KS : Aside0 (∀ w', Below w4.heap.size w4 w' → (w'.cell? ⟨r, 0, none⟩ = some (.slice A4 l.tail.length c4) ∧ w'.cell? ⟨r, 2, none⟩ = some (.int .i64 m))) := ⟨fun w' hb => ⟨(h40.after hb).c0, (h40.after hb).c2⟩⟩
          have BW := Aside0.mk (below_drew (Below.refl w4.heap.size w4))
          have HQ4 := Aside0.mk (h3.keep k4 (by have := H1.out.1; omega) (by have := H1.out.1; omega) (by have := H1.out.2.1; omega) (by have := H1.out.2.1; omega))
          have hL : (((List.map (Value.int .i64) l.tail).length : Nat) : Int) = (l.tail.length : Int) := by rw [List.length_map]
          clear h40
          go_region_held3 (fun w' => w'.cell? ⟨r, 0, none⟩ = some (.slice A4 l.tail.length c4) ∧ w'.cell? ⟨r, 2, none⟩ = some (.int .i64 m))
            (first | (with_reducible exact KS.out _ BW.out) | exact KS.out _ BW.out)
            (first | (go_at_call 20; refine (len_calls (HQ4.out.after (below_drew (Below.refl w4.heap.size w4)))).mono ?_; rintro _ vv ⟨rfl, ev⟩; obtain rfl := ev.symm; rw [hL]) | (go_at_call 21; refine (missed_calls (HQ4.out.after (below_drew (Below.refl w4.heap.size w4)))).mono ?_; rintro _ vv ⟨rfl, ev⟩; obtain rfl := ev.symm))
          go_wp2_with fail
          go_roundg gk
          case measure => have := HI.out; omega
          case rel =>
            have hI := HI.out
            have hN := HN.out
            have hL0 := HL.out
            refine ⟨i + 1, l.tail, m, ?_, by omega, by omega, ⟨HQ4.out.after BW.out⟩, ⟨⟨A4, c4, H4.out.after BW.out⟩⟩, ⟨?_⟩, bthen (Keep.below B3 k4 B3.size H1.out.2.2.2.2 H1.out.2.2.2.2) BW.out⟩
            · congr 1; first | rfl | rw [IntWalk.wrap64_in _ (by omega)] | rw [IntWalk.i64_in _ (by omega)]
            · rw [List.length_tail]; omega
        · have b21 : (k == 1) = false := beq_eq_false_iff_ne.2 e1
          clear e1
          by_cases e2 : k = 2
          · have b22 : (k == 2) = true := beq_iff_eq.2 e2
            clear e2
            have hx2 := hx
            clear hx
            obtain ⟨f1, HX⟩ : True ∧ Aside0 (ActsAt w (some ad) n) := ⟨trivial, HA⟩
            have hx := hx2
            go_wp2_with first | (go_at_call 18; go_loud (refine (push_calls HQ.out HL.out.1 x).mono ?_; rintro _ w3 ⟨rfl, k3, h3⟩; have B3 := Keep.below hbel k3 hbel.size H1.out.2.2.1 H1.out.2.2.2.1; have hx3 := act_at (a := ad) HA.out B3 HI.out hx hbel)) | (go_at_call 19; refine (rpush_calls (HR.out.keep k3 H1.out.1 H1.out.2.1) HL.out.1 (by have := HL.out.2; have := HI.out; have := HN.out; omega) x).mono ?_; rintro _ w4 ⟨rfl, k4, h4⟩)
            obtain ⟨A4, c4, h40⟩ := h4
            have H4 := Aside0.mk h40
            have KS : Aside0 (∀ w', Below w4.heap.size w4 w' → (w'.cell? ⟨r, 0, none⟩ = some (.slice A4 (pushL C l x).length c4) ∧ w'.cell? ⟨r, 2, none⟩ = some (.int .i64 m))) := ⟨fun w' hb => ⟨(h40.after hb).c0, (h40.after hb).c2⟩⟩
            have BW := Aside0.mk (below_drew (Below.refl w4.heap.size w4))
            have HQ4 := Aside0.mk (h3.keep k4 (by have := H1.out.1; omega) (by have := H1.out.1; omega) (by have := H1.out.2.1; omega) (by have := H1.out.2.1; omega))
            have hL : (((List.map (Value.int .i64) (pushL C l x)).length : Nat) : Int) = ((pushL C l x).length : Int) := by rw [List.length_map]
            clear h40
            go_region_held3 (fun w' => w'.cell? ⟨r, 0, none⟩ = some (.slice A4 (pushL C l x).length c4) ∧ w'.cell? ⟨r, 2, none⟩ = some (.int .i64 m))
              (first | (with_reducible exact KS.out _ BW.out) | exact KS.out _ BW.out)
              (first | (go_at_call 20; refine (len_calls (HQ4.out.after (below_drew (Below.refl w4.heap.size w4)))).mono ?_; rintro _ vv ⟨rfl, ev⟩; obtain rfl := ev.symm; rw [hL]) | (go_at_call 21; refine (missed_calls (HQ4.out.after (below_drew (Below.refl w4.heap.size w4)))).mono ?_; rintro _ vv ⟨rfl, ev⟩; obtain rfl := ev.symm))
            go_wp2_with fail
            go_roundg gk
            case measure => have := HI.out; omega
            case rel =>
              have hI := HI.out
              have hN := HN.out
              have hL0 := HL.out
              refine ⟨i + 1, (pushL C l x), m, ?_, by omega, by omega, ⟨HQ4.out.after BW.out⟩, ⟨⟨A4, c4, H4.out.after BW.out⟩⟩, ⟨?_⟩, bthen (Keep.below B3 k4 B3.size H1.out.2.2.2.2 H1.out.2.2.2.2) BW.out⟩
              · congr 1; first | rfl | rw [IntWalk.wrap64_in _ (by omega)] | rw [IntWalk.i64_in _ (by omega)]
              · refine ⟨push_len x hL0.1, ?_⟩
                unfold pushL; split
                · omega
                · split
                  · rw [List.length_append, List.length_tail]; simp; omega
                  · rw [List.length_append]; simp; omega
          · have b22 : (k == 2) = false := beq_eq_false_iff_ne.2 e2
            clear e2
            have hx2 := hx
            clear hx
            obtain ⟨f1, HX⟩ : True ∧ Aside0 (ActsAt w (some ad) n) := ⟨trivial, HA⟩
            have hx := hx2
            go_wp2_with fail
            have h4 := HR.out
            have h3 := HQ.out
            have k4 := Keep.refl wr r r
            have B3 := hbel
            obtain ⟨A4, c4, h40⟩ := h4
            have H4 := Aside0.mk h40
            have KS : Aside0 (∀ w', Below wr.heap.size wr w' → (w'.cell? ⟨r, 0, none⟩ = some (.slice A4 l.length c4) ∧ w'.cell? ⟨r, 2, none⟩ = some (.int .i64 m))) := ⟨fun w' hb => ⟨(h40.after hb).c0, (h40.after hb).c2⟩⟩
            have BW := Aside0.mk (below_drew (Below.refl wr.heap.size wr))
            have HQ4 := Aside0.mk (h3.keep k4 (by have := H1.out.1; omega) (by have := H1.out.1; omega) (by have := H1.out.2.1; omega) (by have := H1.out.2.1; omega))
            have hL : (((List.map (Value.int .i64) l).length : Nat) : Int) = (l.length : Int) := by rw [List.length_map]
            clear h40
            go_region_held3 (fun w' => w'.cell? ⟨r, 0, none⟩ = some (.slice A4 l.length c4) ∧ w'.cell? ⟨r, 2, none⟩ = some (.int .i64 m))
              (first | (with_reducible exact KS.out _ BW.out) | exact KS.out _ BW.out)
              (first | (go_at_call 20; refine (len_calls (HQ4.out.after (below_drew (Below.refl wr.heap.size wr)))).mono ?_; rintro _ vv ⟨rfl, ev⟩; obtain rfl := ev.symm; rw [hL]) | (go_at_call 21; refine (missed_calls (HQ4.out.after (below_drew (Below.refl wr.heap.size wr)))).mono ?_; rintro _ vv ⟨rfl, ev⟩; obtain rfl := ev.symm))
            go_wp2_with fail
            go_roundg gk
            case measure => have := HI.out; omega
            case rel =>
              have hI := HI.out
              have hN := HN.out
              have hL0 := HL.out
              refine ⟨i + 1, l, m, ?_, by omega, by omega, ⟨HQ4.out.after BW.out⟩, ⟨⟨A4, c4, H4.out.after BW.out⟩⟩, ⟨?_⟩, bthen (Keep.below B3 k4 B3.size H1.out.2.2.2.2 H1.out.2.2.2.2) BW.out⟩
              · congr 1; first | rfl | rw [IntWalk.wrap64_in _ (by omega)] | rw [IntWalk.i64_in _ (by omega)]
              · omega
    · have hd : decide (i < (n : Int)) = false := decide_eq_false hlt
      clear hi0 hik hlt
      go_wp2_with (go_at_call 6; refine (lives_calls _).mono ?_; rintro e w9 ⟨rfl, hB⟩)
      go_ret
      exact ⟨rfl, bthen hbel hB⟩

end Go.Proofs.Ytccnfckogcdpcaa.X

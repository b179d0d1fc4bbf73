/- Of any steps each answer, and all blocks of all classes, are as the document says: the walk by hand. Conditions: none. -/
import Derived.Test.YtmgphebhfecfmaaXRefPush
import Derived.Deep.RegionHeld3
import Derived.Deep.DeepCutAuto
namespace Go.Proofs.Ytmgphebhfecfmaa.X
open Go.RowKit Go.Proofs.Ytmgphebhfecfmaa.PPursePlays Go.Proofs.YtmgphebhfecfmaaW.PrintWords Go.Proofs.YtmgphebhfecfmaaW.PrintLast Go.Proofs.YtmgphebhfecfmaaW.PrintMore
set_option linter.unusedVariables false
set_option linter.unusedSimpArgs false

theorem has_fit (P : Nat → Sv) (X : Nat → List Int) (L : List S55) (b : Int) (w : World) (h : PR w P X) (hb : total X ≤ 1000000) (hf : Fits X L) : Calls Try.prog 11 #[.agg #[.slice (P 0).A (P 0).n (P 0).c, .slice (P 1).A (P 1).n (P 1).c, .slice (P 2).A (P 2).n (P 2).c, .slice (P 3).A (P 3).n (P 3).c, .slice (P 4).A (P 4).n (P 4).c], .int .i64 b] w fun e w' => e = .returned (.bool (rhas L b)) ∧ Below w.heap.size w w' := by
  rw [← hf.has]
  exact has_calls P X b w h hb
theorem pop_fit (P : Nat → Sv) (X : Nat → List Int) (L : List S55) (c : Int) (w : World) (h : PR w P X) (hb : total X ≤ 1000000) (hf : Fits X L) : Calls Try.prog 10 #[.agg #[.slice (P 0).A (P 0).n (P 0).c, .slice (P 1).A (P 1).n (P 1).c, .slice (P 2).A (P 2).n (P 2).c, .slice (P 3).A (P 3).n (P 3).c, .slice (P 4).A (P 4).n (P 4).c], .int .i64 c] w fun e w' => ∃ P' : Nat → Sv, e = .returned (.tuple #[.agg #[.slice (P' 0).A (P' 0).n (P' 0).c, .slice (P' 1).A (P' 1).n (P' 1).c, .slice (P' 2).A (P' 2).n (P' 2).c, .slice (P' 3).A (P' 3).n (P' 3).c, .slice (P' 4).A (P' 4).n (P' 4).c], .int .i64 (rpopV L c), .bool (rpopOk L c)]) ∧ PR w' P' (popX X c) ∧ Below w.heap.size w w' := by
  have hp := hf.pop c
  rw [← hp.1, ← hp.2.1]
  exact pop_any P X c w h hb
theorem push_fit (P : Nat → Sv) (X : Nat → List Int) (L : List S55) (c a limit : Int) (w : World) (h : PR w P X) (hb : total X ≤ 1000000) (hf : Fits X L) : Calls Try.prog 7 #[.agg #[.slice (P 0).A (P 0).n (P 0).c, .slice (P 1).A (P 1).n (P 1).c, .slice (P 2).A (P 2).n (P 2).c, .slice (P 3).A (P 3).n (P 3).c, .slice (P 4).A (P 4).n (P 4).c], .int .i64 c, .int .i64 a, .int .i64 limit] w fun e w' => ∃ P' : Nat → Sv, e = .returned (.tuple #[.agg #[.slice (P' 0).A (P' 0).n (P' 0).c, .slice (P' 1).A (P' 1).n (P' 1).c, .slice (P' 2).A (P' 2).n (P' 2).c, .slice (P' 3).A (P' 3).n (P' 3).c, .slice (P' 4).A (P' 4).n (P' 4).c], .bool (rpushOk L c limit)]) ∧ PR w' P' (pushX X c a limit) ∧ Below w.heap.size w w' := by
  rw [← (hf.push c a limit).1]
  exact push_any P X c a limit w h hb
theorem PR.set1 {w : World} {P : Nat → Sv} {X : Nat → List Int} (h : PR w P X) {g : Nat} (hf : ∀ i, i < 5 → ∀ ad, (P i).A = some ad → 0 < (P i).n → ad.block ≠ g) (j : Nat) (v : Value) : PR (w.setCell ⟨g, j, none⟩ v) P X := fun i hi =>
  ⟨(h i hi).len, (h i hi).le, (h i hi).nil, Kd.C_keep (0 : Int) (h i hi).C ((KeepBut.refl w g none).set_ j v) (hf i hi)⟩
theorem one_slice {A : Option Addr} {n c : Nat} : ∀ u ∈ (#[.slice A n c] : Array Value), ∃ A n c, u = .slice A n c := by
  intro u hu
  simp only [List.mem_toArray, List.mem_cons, List.not_mem_nil, or_false] at hu
  subst hu
  exact ⟨_, _, _, rfl⟩
theorem q55b (q : Nat) (hq : q ∈ 55 :: k55.E) : q ≠ 27 := by
  rcases List.mem_cons.1 hq with rfl | hq
  · decide
  · exact absurd hq (by simp [k55, Kd.iso, Kd.pair, Kd.int, Kd.scalar])
theorem r_set5 {w : World} {base g : Nat} {v : Value} {L : List S55} {cs : Array Value} (h : Kd.R k55 55 w base (fun _ => True) v L) (hb : w.heap[g]? = some (.cells cs 27)) (v0 v1 v2 v3 v4 : Value) : Kd.R k55 55 (((((w.setCell ⟨g, 0, none⟩ v0).setCell ⟨g, 1, none⟩ v1).setCell ⟨g, 2, none⟩ v2).setCell ⟨g, 3, none⟩ v3).setCell ⟨g, 4, none⟩ v4) base (fun _ => True) v L :=
  Kd.R_set (Kd.R_set (Kd.R_set (Kd.R_set (Kd.R_set h hb q55b 0 _) (blk_set hb 0 _) q55b 1 _) (blk_set (blk_set hb 0 _) 1 _) q55b 2 _) (blk_set (blk_set (blk_set hb 0 _) 1 _) 2 _) q55b 3 _) (blk_set (blk_set (blk_set (blk_set hb 0 _) 1 _) 2 _) 3 _) q55b 4 _
theorem lastB {w0 w : World} {p : Prop} (h : p ∧ Below w.heap.size w w0) : Below w.heap.size w w0 := h.2
theorem plays_long (A : Option Addr) (n cp : Nat) (b : Int) (w : World) (h : 100 < (n : Int)) : Calls Try.prog 4 #[.slice A n cp, .int .i64 b] w fun e w' => e = .returned (.bool true) ∧ Below w.heap.size w w' := by
  have b0 : decide ((100 : Int) < (n : Int)) = true := decide_eq_true h
  clear h
  go_enter Try.func4, Try.ntmps4
  go_wp2_with (go_at_call 5; refine (lives_calls _).mono ?_; rintro e w1 ⟨rfl, hB⟩)
  go_ret
  exact ⟨rfl, hB⟩
set_option maxRecDepth 100000 in
set_option maxHeartbeats 40000000 in
theorem plays_walk (A : Option Addr) (n cp : Nat) (b : Int) (w : World) (hn : n ≤ 100) (hA : ActsAt w A n) : Calls Try.prog 4 #[.slice A n cp, .int .i64 b] w fun e w' => e = .returned (.bool true) ∧ Below w.heap.size w w' := by
  have b0 : decide ((100 : Int) < (n : Int)) = false := decide_eq_false (by omega)
  have HA := Aside0.mk hA
  have HN := Aside0.mk hn
  clear hA hn
  go_enter Try.func4, Try.ntmps4
  go_wp2
  go_loopg [7] n (fun kq v7 w' => ∃ (i : Int) (P : Nat → Sv) (X : Nat → List Int) (Ar : Option Addr) (cr : Nat) (L : List S55), v7 = .int .i64 i ∧ 0 ≤ i ∧ i + (kq : Int) = n ∧ Aside0 (w'.heap[w.heap.size]? = some (.cells #[.slice (P 0).A (P 0).n (P 0).c, .slice (P 1).A (P 1).n (P 1).c, .slice (P 2).A (P 2).n (P 2).c, .slice (P 3).A (P 3).n (P 3).c, .slice (P 4).A (P 4).n (P 4).c] 27)) ∧ Aside0 (w'.heap[w.heap.size + 1]? = some (.cells #[.slice Ar L.length cr] 40)) ∧ Aside0 (PR w' P X) ∧ Aside0 (Kd.R k55 55 w' w.heap.size (fun _ => True) (.slice Ar L.length cr) L) ∧ Aside0 (Fits X L) ∧ Aside0 ((total X : Int) ≤ i ∧ (L.length : Int) ≤ i) ∧ Below w.heap.size w w')
  case atStart =>
    refine ⟨0, nosv, no5, none, 0, [], rfl, by omega, by omega, ⟨blk_alloc (blk_new _ _) _⟩, ⟨blk_new1 w _ _⟩, ⟨pr_none _⟩, ⟨Kd.R_nil _ _ _ _ _⟩, ⟨Fits.none⟩, ⟨by decide +kernel⟩, ballo (ballo (Below.refl _ _) _) _⟩
  case round =>
    obtain ⟨i, P, X, Ar, cr, L, rfl, hi0, hik, HBx, HBr, HP, HK, HF, HT, hbel⟩ := hrel
    by_cases hlt : i < (n : Int)
    · have hd : decide (i < (n : Int)) = true := decide_eq_true hlt
      obtain ⟨gk, rfl⟩ : ∃ k, gk = k + 1 := ⟨gk - 1, by omega⟩
      obtain ⟨ad, ead, hc⟩ := (HA.out.below hbel) (by omega)
      have hlt0 := act_far HA.out (by omega) ead
      cases ead
      have hne : Aside0 ((ad.add (i.toNat * 4)).block < w.heap.size) := ⟨by rw [add_block]; omega⟩
      obtain ⟨k, hk⟩ := hc i.toNat (by omega) 0 (by omega)
      obtain ⟨a, ha⟩ := hc i.toNat (by omega) 1 (by omega)
      obtain ⟨x, hx⟩ := hc i.toNat (by omega) 2 (by omega)
      obtain ⟨y, hy⟩ := hc i.toNat (by omega) 3 (by omega)
      obtain ⟨d0, d1, d2, d3, d4⟩ := blk5 HBx.out
      have p0 : (0 ≤ i) = True := eq_true hi0
      have q0 : (i < (n : Int)) = True := eq_true hlt
      rw [Nat.add_zero] at hk
      rw [add_field _ _ _ (by omega)] at ha hx hy
      have HI := Aside0.mk (And.intro hi0 (And.intro hik hlt))
      clear hi0 hik hlt hc hlt0
      by_cases e2 : k = 2
      · have b2 : (k == 2) = true := beq_iff_eq.2 e2
        clear e2
        go_upto_region 9 with fail
        go_cut [8, 9, 10] (fun s8 s9 s10 wx => ∃ (g : Nat) (P2 : Nat → Sv), s8 = .pointer (some ⟨g, 0, none⟩) ∧ s9 = .int .i64 (rpopV L a) ∧ s10 = .bool (rpopOk L a) ∧ Aside0 (wx.heap[g]? = some (.cells #[.slice (P2 0).A (P2 0).n (P2 0).c, .slice (P2 1).A (P2 1).n (P2 1).c, .slice (P2 2).A (P2 2).n (P2 2).c, .slice (P2 3).A (P2 3).n (P2 3).c, .slice (P2 4).A (P2 4).n (P2 4).c] 27)) ∧ Aside0 (PR wx P2 (popX X a)) ∧ Aside0 (wr.heap.size ≤ g) ∧ Aside0 (Below wr.heap.size wr wx))
        case first =>
          have KS : Aside0 (∀ w', Below wr.heap.size wr w' → (w'.cell? ⟨w.heap.size, 0, none⟩ = some (.slice (P 0).A (P 0).n (P 0).c) ∧ w'.cell? ⟨w.heap.size, 1, none⟩ = some (.slice (P 1).A (P 1).n (P 1).c) ∧ w'.cell? ⟨w.heap.size, 2, none⟩ = some (.slice (P 2).A (P 2).n (P 2).c) ∧ w'.cell? ⟨w.heap.size, 3, none⟩ = some (.slice (P 3).A (P 3).n (P 3).c) ∧ w'.cell? ⟨w.heap.size, 4, none⟩ = some (.slice (P 4).A (P 4).n (P 4).c) ∧ w'.cell? ⟨(ad.add (i.toNat * 4)).block, (ad.add (i.toNat * 4)).off + 1, none⟩ = some (.int .i64 a))) := ⟨fun w' hb => ⟨pw_cell_below hb d0, pw_cell_below hb d1, pw_cell_below hb d2, pw_cell_below hb d3, pw_cell_below hb d4, pw_cell_below hb ha⟩⟩
          have hT0 := Aside0.mk (show total X ≤ 1000000 by have := HT.out; have := HN.out; have := HI.out; omega)
          have BW := below_drew (Below.refl wr.heap.size wr)
          have BN := below_drew (ballo (Below.refl wr.heap.size wr) (.cells #[.slice none 0 0, .slice none 0 0, .slice none 0 0, .slice none 0 0, .slice none 0 0] 27))
          have qn := blk_drew (blk_new wr (.cells #[.slice none 0 0, .slice none 0 0, .slice none 0 0, .slice none 0 0, .slice none 0 0] 27))
          have HBN := Aside0.mk BN
          have HBW := Aside0.mk BW
          have HQN := Aside0.mk qn
          clear BW BN qn
          go_region_held3 (fun w' => w'.cell? ⟨w.heap.size, 0, none⟩ = some (.slice (P 0).A (P 0).n (P 0).c) ∧ w'.cell? ⟨w.heap.size, 1, none⟩ = some (.slice (P 1).A (P 1).n (P 1).c) ∧ w'.cell? ⟨w.heap.size, 2, none⟩ = some (.slice (P 2).A (P 2).n (P 2).c) ∧ w'.cell? ⟨w.heap.size, 3, none⟩ = some (.slice (P 3).A (P 3).n (P 3).c) ∧ w'.cell? ⟨w.heap.size, 4, none⟩ = some (.slice (P 4).A (P 4).n (P 4).c) ∧ w'.cell? ⟨(ad.add (i.toNat * 4)).block, (ad.add (i.toNat * 4)).off + 1, none⟩ = some (.int .i64 a))
            (first | (with_reducible exact KS.out _ HBW.out) | (with_reducible exact KS.out _ HBN.out) | (with_reducible exact KS.out _ hX) | (with_reducible exact KS.out _ (ballo hX _)) | (with_reducible exact KS.out _ (below_set5 hX (Nat.le_refl _) _ _ _ _ _)) | exact KS.out _ (below_set5 (ballo hX _) hX.size _ _ _ _ _))
            (first | (go_at_call 10; refine (pop_fit P X L a _ (HP.out.below HBW.out) hT0.out HF.out).mono ?_; rintro e w2 ⟨P2, rfl, hP2, hB2⟩; have hX : Below wr.heap.size wr w2 := bthen HBW.out hB2; obtain ⟨e0, e1, e2, e3, e4⟩ := blk5 (blk_new w2 (.cells #[.slice none 0 0, .slice none 0 0, .slice none 0 0, .slice none 0 0, .slice none 0 0] 27)); have ef := blk_frozen (blk_new w2 (.cells #[.slice none 0 0, .slice none 0 0, .slice none 0 0, .slice none 0 0, .slice none 0 0] 27))) | (go_at_call 10; refine (pop_fit P X L a _ (HP.out.below HBN.out) hT0.out HF.out).mono ?_; rintro e w2 ⟨P2, rfl, hP2, hB2⟩; have hX : Below wr.heap.size wr w2 := bthen HBN.out hB2; have qn2 := blk_below HQN.out hB2; obtain ⟨e0, e1, e2, e3, e4⟩ := blk5 qn2; have ef := blk_frozen qn2))
          all_goals
            go_wp2_with fail
            go_meet
          · exact ⟨w2.heap.size, P2, rfl, rfl, rfl, ⟨blk_new w2 _⟩, ⟨hP2.below (ballo (Below.refl _ _) _)⟩, ⟨hX.size⟩, ⟨ballo hX _⟩⟩
          · exact ⟨wr.heap.size, P2, rfl, rfl, rfl, ⟨set5_blk qn2 _ _ _ _ _ rfl⟩, ⟨hP2.set5 (hP2.far qn2 nils_slices) _ _ _ _ _⟩, ⟨Nat.le_refl _⟩, ⟨below_set5 hX (Nat.le_refl _) _ _ _ _ _⟩⟩
        case rest =>
          obtain ⟨wx, rfl⟩ : ∃ wx : World, wx = wc := ⟨_, rfl⟩
          obtain ⟨g, P2, rfl, rfl, rfl, HQg, HP2, Hg, HXW⟩ := hcut
          obtain ⟨r0, r0f⟩ := blk5a (blk_below HBr.out HXW.out)
          replace ha := pw_cell_below HXW.out ha
          have HBX := Aside0.mk (bthen hbel HXW.out)
          clear d0 d1 d2 d3 d4
          go_upto_region 10 with fail
          go_cut [11, 12, 13] (fun s11 s12 s13 wy => ∃ (h : Nat) (A2 : Option Addr) (c2 : Nat), s11 = .pointer (some ⟨h, 0, none⟩) ∧ s12 = .int .i64 (rpopV L a) ∧ s13 = .bool (rpopOk L a) ∧ Aside0 (wy.heap[h]? = some (.cells #[.slice A2 (rpopL L a).length c2] 40)) ∧ Aside0 (Kd.R k55 55 wy w.heap.size (fun _ => True) (.slice A2 (rpopL L a).length c2) (rpopL L a)) ∧ Aside0 (wx.heap.size ≤ h) ∧ Aside0 (Below wx.heap.size wx wy))
          case first =>
            have KS : Aside0 (∀ w', Below wx.heap.size wx w' → (w'.cell? ⟨w.heap.size + 1, 0, none⟩ = some (.slice Ar L.length cr) ∧ w'.cell? ⟨(ad.add (i.toNat * 4)).block, (ad.add (i.toNat * 4)).off + 1, none⟩ = some (.int .i64 a))) := ⟨fun w' hb => ⟨pw_cell_below hb r0, pw_cell_below hb ha⟩⟩
            have hL0 := Aside0.mk (show L.length ≤ 1000 by have := HT.out; have := HN.out; have := HI.out; omega)
            have HBW := Aside0.mk (below_drew (Below.refl wx.heap.size wx))
            have HBN := Aside0.mk (below_drew (ballo (Below.refl wx.heap.size wx) (.cells #[.slice none 0 0] 40)))
            have HQN := Aside0.mk (blk_drew (blk_new wx (.cells #[.slice none 0 0] 40)))
            go_region_held3 (fun w' => w'.cell? ⟨w.heap.size + 1, 0, none⟩ = some (.slice Ar L.length cr) ∧ w'.cell? ⟨(ad.add (i.toNat * 4)).block, (ad.add (i.toNat * 4)).off + 1, none⟩ = some (.int .i64 a))
              (first | (with_reducible exact KS.out _ HBW.out) | (with_reducible exact KS.out _ HBN.out) | (with_reducible exact KS.out _ hX) | (with_reducible exact KS.out _ (ballo hX _)) | (with_reducible exact KS.out _ (hX.setCell (Nat.le_refl _) _)) | exact KS.out _ ((ballo hX _).setCell hX.size _))
              (first | (go_at_call 12; refine (rpop_calls (.slice Ar L.length cr) L a w _ (bthen HBX.out HBW.out) (Kd.R_below HK.out (bthen HXW.out HBW.out)) hL0.out).mono ?_; rintro e w2 ⟨v2, rfl, hK2, hBB⟩; have hB2 := lastB hBB; obtain ⟨A2, c2, rfl⟩ := Kd.R_slice hK2; have hX : Below wx.heap.size wx w2 := bthen HBW.out hB2; have qn2 := blk_new w2 (.cells #[.slice none 0 0] 40); obtain ⟨e0, ef⟩ := blk5a qn2) | (go_at_call 12; refine (rpop_calls (.slice Ar L.length cr) L a w _ (bthen HBX.out HBN.out) (Kd.R_below HK.out (bthen HXW.out HBN.out)) hL0.out).mono ?_; rintro e w2 ⟨v2, rfl, hK2, hBB⟩; have hB2 := lastB hBB; obtain ⟨A2, c2, rfl⟩ := Kd.R_slice hK2; have hX : Below wx.heap.size wx w2 := bthen HBN.out hB2; have qn2 := blk_below HQN.out hB2; obtain ⟨e0, ef⟩ := blk5a qn2))
            all_goals
              go_wp2_with fail
              go_meet
            · exact ⟨w2.heap.size, A2, c2, rfl, rfl, rfl, ⟨blk_new w2 _⟩, ⟨Kd.R_alloc hK2 _⟩, ⟨hX.size⟩, ⟨ballo hX _⟩⟩
            · exact ⟨wx.heap.size, A2, c2, rfl, rfl, rfl, ⟨blk_set qn2 0 _⟩, ⟨Kd.R_set hK2 qn2 q55 0 _⟩, ⟨Nat.le_refl _⟩, ⟨hX.setCell (Nat.le_refl _) _⟩⟩
          case rest =>
            obtain ⟨wy, rfl⟩ : ∃ wy : World, wy = wc := ⟨_, rfl⟩
            obtain ⟨h, A2, c2, rfl, rfl, rfl, HQh, HK2, Hh, HYX⟩ := hcut
            have hQx := blk_below (blk_below HBx.out HXW.out) HYX.out
            have hQr := blk_below (blk_below HBr.out HXW.out) HYX.out
            have hQg := blk_below HQg.out HYX.out
            have hlx : w.heap.size + 1 < wr.heap.size := blk_lt HBr.out
            have hwx := HXW.out.size
            have hgh : w.heap.size + 1 < g ∧ w.heap.size + 1 < h := ⟨by have := Hg.out; omega, by have := Hh.out; omega⟩
            obtain ⟨d0, d1, d2, d3, d4⟩ := blk5 hQx
            have df := blk_frozen hQx
            obtain ⟨g0, g1, g2, g3, g4⟩ := blk5 hQg
            have s5 := set5_far (g := w.heap.size) (a := ⟨h, 0, none⟩) (by simp only; omega) (blk5a HQh.out).1 (.slice (P2 0).A (P2 0).n (P2 0).c) (.slice (P2 1).A (P2 1).n (P2 1).c) (.slice (P2 2).A (P2 2).n (P2 2).c) (.slice (P2 3).A (P2 3).n (P2 3).c) (.slice (P2 4).A (P2 4).n (P2 4).c)
            obtain ⟨r5, r5f⟩ := blk5a (set5_oth (g := w.heap.size) hQr (by omega) (.slice (P2 0).A (P2 0).n (P2 0).c) (.slice (P2 1).A (P2 1).n (P2 1).c) (.slice (P2 2).A (P2 2).n (P2 2).c) (.slice (P2 3).A (P2 3).n (P2 3).c) (.slice (P2 4).A (P2 4).n (P2 4).c))
            have HPZ : Aside0 (PR ((((((wy.setCell ⟨w.heap.size, 0, none⟩ (.slice (P2 0).A (P2 0).n (P2 0).c)).setCell ⟨w.heap.size, 1, none⟩ (.slice (P2 1).A (P2 1).n (P2 1).c)).setCell ⟨w.heap.size, 2, none⟩ (.slice (P2 2).A (P2 2).n (P2 2).c)).setCell ⟨w.heap.size, 3, none⟩ (.slice (P2 3).A (P2 3).n (P2 3).c)).setCell ⟨w.heap.size, 4, none⟩ (.slice (P2 4).A (P2 4).n (P2 4).c)).setCell ⟨w.heap.size + 1, 0, none⟩ (.slice A2 (rpopL L a).length c2)) P2 (popX X a)) := ⟨fun i hi => PR.set1 ((HP2.out.below HYX.out).set5 ((HP2.out.below HYX.out).far hQx (five_slices P)) (.slice (P2 0).A (P2 0).n (P2 0).c) (.slice (P2 1).A (P2 1).n (P2 1).c) (.slice (P2 2).A (P2 2).n (P2 2).c) (.slice (P2 3).A (P2 3).n (P2 3).c) (.slice (P2 4).A (P2 4).n (P2 4).c)) (((HP2.out.below HYX.out).set5 ((HP2.out.below HYX.out).far hQx (five_slices P)) (.slice (P2 0).A (P2 0).n (P2 0).c) (.slice (P2 1).A (P2 1).n (P2 1).c) (.slice (P2 2).A (P2 2).n (P2 2).c) (.slice (P2 3).A (P2 3).n (P2 3).c) (.slice (P2 4).A (P2 4).n (P2 4).c)).far (set5_oth (g := w.heap.size) hQr (by omega) (.slice (P2 0).A (P2 0).n (P2 0).c) (.slice (P2 1).A (P2 1).n (P2 1).c) (.slice (P2 2).A (P2 2).n (P2 2).c) (.slice (P2 3).A (P2 3).n (P2 3).c) (.slice (P2 4).A (P2 4).n (P2 4).c)) one_slice) 0 _ i hi⟩
            have HKZ : Aside0 (Kd.R k55 55 ((((((wy.setCell ⟨w.heap.size, 0, none⟩ (.slice (P2 0).A (P2 0).n (P2 0).c)).setCell ⟨w.heap.size, 1, none⟩ (.slice (P2 1).A (P2 1).n (P2 1).c)).setCell ⟨w.heap.size, 2, none⟩ (.slice (P2 2).A (P2 2).n (P2 2).c)).setCell ⟨w.heap.size, 3, none⟩ (.slice (P2 3).A (P2 3).n (P2 3).c)).setCell ⟨w.heap.size, 4, none⟩ (.slice (P2 4).A (P2 4).n (P2 4).c)).setCell ⟨w.heap.size + 1, 0, none⟩ (.slice A2 (rpopL L a).length c2)) w.heap.size (fun _ => True) (.slice A2 (rpopL L a).length c2) (rpopL L a)) := ⟨Kd.R_set (r_set5 HK2.out hQx (.slice (P2 0).A (P2 0).n (P2 0).c) (.slice (P2 1).A (P2 1).n (P2 1).c) (.slice (P2 2).A (P2 2).n (P2 2).c) (.slice (P2 3).A (P2 3).n (P2 3).c) (.slice (P2 4).A (P2 4).n (P2 4).c)) (set5_oth (g := w.heap.size) hQr (by omega) (.slice (P2 0).A (P2 0).n (P2 0).c) (.slice (P2 1).A (P2 1).n (P2 1).c) (.slice (P2 2).A (P2 2).n (P2 2).c) (.slice (P2 3).A (P2 3).n (P2 3).c) (.slice (P2 4).A (P2 4).n (P2 4).c)) q55 0 _⟩
            have HXZ : Aside0 (((((((wy.setCell ⟨w.heap.size, 0, none⟩ (.slice (P2 0).A (P2 0).n (P2 0).c)).setCell ⟨w.heap.size, 1, none⟩ (.slice (P2 1).A (P2 1).n (P2 1).c)).setCell ⟨w.heap.size, 2, none⟩ (.slice (P2 2).A (P2 2).n (P2 2).c)).setCell ⟨w.heap.size, 3, none⟩ (.slice (P2 3).A (P2 3).n (P2 3).c)).setCell ⟨w.heap.size, 4, none⟩ (.slice (P2 4).A (P2 4).n (P2 4).c)).setCell ⟨w.heap.size + 1, 0, none⟩ (.slice A2 (rpopL L a).length c2)).heap[w.heap.size]? = some (.cells #[.slice (P2 0).A (P2 0).n (P2 0).c, .slice (P2 1).A (P2 1).n (P2 1).c, .slice (P2 2).A (P2 2).n (P2 2).c, .slice (P2 3).A (P2 3).n (P2 3).c, .slice (P2 4).A (P2 4).n (P2 4).c] 27)) := ⟨blk_far (set5_blk hQx (.slice (P2 0).A (P2 0).n (P2 0).c) (.slice (P2 1).A (P2 1).n (P2 1).c) (.slice (P2 2).A (P2 2).n (P2 2).c) (.slice (P2 3).A (P2 3).n (P2 3).c) (.slice (P2 4).A (P2 4).n (P2 4).c) rfl) (by simp) _⟩
            have HRZ : Aside0 (((((((wy.setCell ⟨w.heap.size, 0, none⟩ (.slice (P2 0).A (P2 0).n (P2 0).c)).setCell ⟨w.heap.size, 1, none⟩ (.slice (P2 1).A (P2 1).n (P2 1).c)).setCell ⟨w.heap.size, 2, none⟩ (.slice (P2 2).A (P2 2).n (P2 2).c)).setCell ⟨w.heap.size, 3, none⟩ (.slice (P2 3).A (P2 3).n (P2 3).c)).setCell ⟨w.heap.size, 4, none⟩ (.slice (P2 4).A (P2 4).n (P2 4).c)).setCell ⟨w.heap.size + 1, 0, none⟩ (.slice A2 (rpopL L a).length c2)).heap[w.heap.size + 1]? = some (.cells #[.slice A2 (rpopL L a).length c2] 40)) := ⟨blk_set (set5_oth (g := w.heap.size) hQr (by omega) (.slice (P2 0).A (P2 0).n (P2 0).c) (.slice (P2 1).A (P2 1).n (P2 1).c) (.slice (P2 2).A (P2 2).n (P2 2).c) (.slice (P2 3).A (P2 3).n (P2 3).c) (.slice (P2 4).A (P2 4).n (P2 4).c)) 0 _⟩
            have HBZ : Aside0 (Below w.heap.size w ((((((wy.setCell ⟨w.heap.size, 0, none⟩ (.slice (P2 0).A (P2 0).n (P2 0).c)).setCell ⟨w.heap.size, 1, none⟩ (.slice (P2 1).A (P2 1).n (P2 1).c)).setCell ⟨w.heap.size, 2, none⟩ (.slice (P2 2).A (P2 2).n (P2 2).c)).setCell ⟨w.heap.size, 3, none⟩ (.slice (P2 3).A (P2 3).n (P2 3).c)).setCell ⟨w.heap.size, 4, none⟩ (.slice (P2 4).A (P2 4).n (P2 4).c)).setCell ⟨w.heap.size + 1, 0, none⟩ (.slice A2 (rpopL L a).length c2))) := ⟨(below_set5 (bthen HBX.out HYX.out) (Nat.le_refl _) (.slice (P2 0).A (P2 0).n (P2 0).c) (.slice (P2 1).A (P2 1).n (P2 1).c) (.slice (P2 2).A (P2 2).n (P2 2).c) (.slice (P2 3).A (P2 3).n (P2 3).c) (.slice (P2 4).A (P2 4).n (P2 4).c)).setCell (Nat.le_succ _) _⟩
            have HFZ : Aside0 (Fits (popX X a) (rpopL L a)) := ⟨(HF.out.pop a).2.2⟩
            have HTZ : Aside0 ((total (popX X a) : Int) ≤ i + 1 ∧ ((rpopL L a).length : Int) ≤ i + 1) := ⟨by have h1 := popX_total X a; have h2 := rpop_len L a; have := HT.out; omega⟩
            clear hQx hQr hQg hlx hwx
            go_wp2_with fail
            generalize hz : ((((((wy.setCell ⟨w.heap.size, 0, none⟩ (.slice (P2 0).A (P2 0).n (P2 0).c)).setCell ⟨w.heap.size, 1, none⟩ (.slice (P2 1).A (P2 1).n (P2 1).c)).setCell ⟨w.heap.size, 2, none⟩ (.slice (P2 2).A (P2 2).n (P2 2).c)).setCell ⟨w.heap.size, 3, none⟩ (.slice (P2 3).A (P2 3).n (P2 3).c)).setCell ⟨w.heap.size, 4, none⟩ (.slice (P2 4).A (P2 4).n (P2 4).c)).setCell ⟨w.heap.size + 1, 0, none⟩ (.slice A2 (rpopL L a).length c2)) = wz at *
            have hrd := Kd.R_reads' HKZ.out
            have HX5 := Aside0.mk HXZ.out
            have HR5 := Aside0.mk HRZ.out
            have HP5 := Aside0.mk HPZ.out
            have HC5 := Aside0.mk hrd.2.2
            have HN5 := Aside0.mk hrd.2.1
            have HF5 := Aside0.mk HFZ.out
            have HT5 := Aside0.mk (show (total (popX X a) : Int) ≤ i + 1 ∧ ((rpopL L a).length : Int) ≤ i + 1 ∧ i < 100 from ⟨HTZ.out.1, HTZ.out.2, by have := HI.out; have := HN.out; omega⟩)
            have HK5 := Aside0.mk HKZ.out
            have HB5 := Aside0.mk HBZ.out
            clear hrd HXZ HRZ HPZ HFZ HTZ HKZ HBZ hz d0 d1 d2 d3 d4 df g0 g1 g2 g3 g4 s5 r5 r5f r0 r0f
            refine wp_region_held_drew (S := fun w' => w'.cell? ⟨w.heap.size, 0, none⟩ = some (.slice (P2 0).A (P2 0).n (P2 0).c) ∧ w'.cell? ⟨w.heap.size, 1, none⟩ = some (.slice (P2 1).A (P2 1).n (P2 1).c) ∧ w'.cell? ⟨w.heap.size, 2, none⟩ = some (.slice (P2 2).A (P2 2).n (P2 2).c) ∧ w'.cell? ⟨w.heap.size, 3, none⟩ = some (.slice (P2 3).A (P2 3).n (P2 3).c) ∧ w'.cell? ⟨w.heap.size, 4, none⟩ = some (.slice (P2 4).A (P2 4).n (P2 4).c) ∧ w'.cell? ⟨w.heap.size + 1, 0, none⟩ = some (.slice A2 (rpopL L a).length c2)) (by kernel_rfl) (by first | exact blk6 (blk_drew HX5.out) (blk_drew HR5.out) | (dsimp only; exact blk6 (blk_drew HX5.out) (blk_drew HR5.out))) (fun hS => ?_)
            refine wpAnyH_take (i := 0) (v := ?_) rfl (by kernel_rfl) (by kernel_rfl) (by kernel_rfl) (fun _ _ _ h => h) (Or.inl ⟨by rfl, ?_⟩) hS ?_
            rotate_left
            · intro wS hW; (try dsimp only at hW); obtain ⟨W0, W1, W2, W3, W4, W5⟩ := hW; go_simp; (try with_reducible rfl)
            try simp only [List.getElem_toArray, List.getElem_cons_zero, List.getElem_cons_succ, Act.put, List.setIfInBounds_toArray, List.set_cons_zero, List.set_cons_succ]
            refine wpAnyH_take (i := 2) (v := ?_) rfl (by kernel_rfl) (by kernel_rfl) (by kernel_rfl) (fun _ _ _ h => h) (Or.inl ⟨by rfl, ?_⟩) hS ?_
            rotate_left
            · intro wS hW; (try dsimp only at hW); obtain ⟨W0, W1, W2, W3, W4, W5⟩ := hW; go_simp; (try with_reducible rfl)
            try simp only [List.getElem_toArray, List.getElem_cons_zero, List.getElem_cons_succ, Act.put, List.setIfInBounds_toArray, List.set_cons_zero, List.set_cons_succ]
            refine wpAnyH_ready (rs := [1]) (by kernel_rfl) (by simp) ?_
            refine AllReadyH.cons rfl (fun K hK => ?_) AllReadyH.nil
            try simp only [List.getElem_toArray, List.getElem_cons_zero, List.getElem_cons_succ, Act.put, List.setIfInBounds_toArray, List.set_cons_zero, List.set_cons_succ]
            go_simp
            refine (of_calls P2 _).mono ?_
            rintro e z1 ⟨rfl, hE1⟩
            refine hK.out _ _ (by first | exact blk6 (blk_below (blk_drew HX5.out) hE1) (blk_below (blk_drew HR5.out) hE1) | (dsimp only; exact blk6 (blk_below (blk_drew HX5.out) hE1) (blk_below (blk_drew HR5.out) hE1))) (fun hS2 => ?_)
            clear hS hK K
            have hS := hS2
            clear hS2
            try simp only [List.getElem_toArray, List.getElem_cons_zero, List.getElem_cons_succ, Act.put, List.setIfInBounds_toArray, List.set_cons_zero, List.set_cons_succ]
            refine wpAnyH_ready (rs := [3]) (by kernel_rfl) (by simp) ?_
            refine AllReadyH.cons rfl (fun K hK => ?_) AllReadyH.nil
            try simp only [List.getElem_toArray, List.getElem_cons_zero, List.getElem_cons_succ, Act.put, List.setIfInBounds_toArray, List.set_cons_zero, List.set_cons_succ]
            go_simp
            refine (ksame_calls P2 (popX X a) A2 c2 (rpopL L a) _ (HP5.out.below (bthen (below_drew (Below.refl _ _)) hE1)) (Kd.C_below HC5.out (bthen (below_drew (Below.refl _ _)) hE1)) HN5.out HF5.out (by have := HT5.out; omega) (by have := HT5.out; omega)).mono ?_
            rintro e z2 ⟨rfl, hE2⟩
            refine hK.out _ _ (by first | exact blk6 (blk_below (blk_below (blk_drew HX5.out) hE1) hE2) (blk_below (blk_below (blk_drew HR5.out) hE1) hE2) | (dsimp only; exact blk6 (blk_below (blk_below (blk_drew HX5.out) hE1) hE2) (blk_below (blk_below (blk_drew HR5.out) hE1) hE2))) (fun hS2 => ?_)
            clear hS hK K
            have hS := hS2
            clear hS2
            try simp only [List.getElem_toArray, List.getElem_cons_zero, List.getElem_cons_succ, Act.put, List.setIfInBounds_toArray, List.set_cons_zero, List.set_cons_succ]
            refine wpAnyH_take (i := 4) (v := ?_) rfl (by kernel_rfl) (by kernel_rfl) (by kernel_rfl) (fun _ _ _ h => h) (Or.inl ⟨by rfl, ?_⟩) hS ?_
            rotate_left
            · intro wS hW; (try dsimp only at hW); obtain ⟨W0, W1, W2, W3, W4, W5⟩ := hW; go_simp; (try with_reducible rfl)
            try simp only [List.getElem_toArray, List.getElem_cons_zero, List.getElem_cons_succ, Act.put, List.setIfInBounds_toArray, List.set_cons_zero, List.set_cons_succ]
            refine wpAnyH_take (i := 5) (v := ?_) rfl (by kernel_rfl) (by kernel_rfl) (by kernel_rfl) (fun _ _ _ h => h) (Or.inl ⟨by rfl, ?_⟩) hS ?_
            rotate_left
            · intro wS hW; (try dsimp only at hW); obtain ⟨W0, W1, W2, W3, W4, W5⟩ := hW; go_simp; (try with_reducible rfl)
            try simp only [List.getElem_toArray, List.getElem_cons_zero, List.getElem_cons_succ, Act.put, List.setIfInBounds_toArray, List.set_cons_zero, List.set_cons_succ]
            refine wpAnyH_take (i := 6) (v := ?_) rfl (by kernel_rfl) (by kernel_rfl) (by kernel_rfl) (fun _ _ _ h => h) (Or.inl ⟨by rfl, ?_⟩) hS ?_
            rotate_left
            · intro wS hW; (try dsimp only at hW); obtain ⟨W0, W1, W2, W3, W4, W5⟩ := hW; go_simp; (try with_reducible rfl)
            try simp only [List.getElem_toArray, List.getElem_cons_zero, List.getElem_cons_succ, Act.put, List.setIfInBounds_toArray, List.set_cons_zero, List.set_cons_succ]
            refine wpAnyH_take (i := 7) (v := ?_) rfl (by kernel_rfl) (by kernel_rfl) (by kernel_rfl) (fun _ _ _ h => h) (Or.inl ⟨by rfl, ?_⟩) hS ?_
            rotate_left
            · intro wS hW; (try dsimp only at hW); obtain ⟨W0, W1, W2, W3, W4, W5⟩ := hW; go_simp; (try with_reducible rfl)
            try simp only [List.getElem_toArray, List.getElem_cons_zero, List.getElem_cons_succ, Act.put, List.setIfInBounds_toArray, List.set_cons_zero, List.set_cons_succ]
            refine wpAnyH_take (i := 9) (v := ?_) rfl (by kernel_rfl) (by kernel_rfl) (by kernel_rfl) (fun _ _ _ h => h) (Or.inl ⟨by rfl, ?_⟩) hS ?_
            rotate_left
            · intro wS hW; (try dsimp only at hW); obtain ⟨W0, W1, W2, W3, W4, W5⟩ := hW; go_simp; (try with_reducible rfl)
            try simp only [List.getElem_toArray, List.getElem_cons_zero, List.getElem_cons_succ, Act.put, List.setIfInBounds_toArray, List.set_cons_zero, List.set_cons_succ]
            refine wpAnyH_take (i := 10) (v := ?_) rfl (by kernel_rfl) (by kernel_rfl) (by kernel_rfl) (fun _ _ _ h => h) (Or.inl ⟨by rfl, ?_⟩) hS ?_
            rotate_left
            · intro wS hW; (try dsimp only at hW); obtain ⟨W0, W1, W2, W3, W4, W5⟩ := hW; go_simp; (try with_reducible rfl)
            try simp only [List.getElem_toArray, List.getElem_cons_zero, List.getElem_cons_succ, Act.put, List.setIfInBounds_toArray, List.set_cons_zero, List.set_cons_succ]
            refine wpAnyH_ready (rs := [8]) (by kernel_rfl) (by simp) ?_
            refine AllReadyH.cons rfl (fun K hK => ?_) AllReadyH.nil
            try simp only [List.getElem_toArray, List.getElem_cons_zero, List.getElem_cons_succ, Act.put, List.setIfInBounds_toArray, List.set_cons_zero, List.set_cons_succ]
            go_simp
            refine (has_fit P2 (popX X a) (rpopL L a) b _ (HP5.out.below (bthen (bthen (below_drew (Below.refl _ _)) hE1) hE2)) (by have := HT5.out; omega) HF5.out).mono ?_
            rintro e z3 ⟨rfl, hE3⟩
            refine hK.out _ _ (by first | exact blk6 (blk_below (blk_below (blk_below (blk_drew HX5.out) hE1) hE2) hE3) (blk_below (blk_below (blk_below (blk_drew HR5.out) hE1) hE2) hE3) | (dsimp only; exact blk6 (blk_below (blk_below (blk_below (blk_drew HX5.out) hE1) hE2) hE3) (blk_below (blk_below (blk_below (blk_drew HR5.out) hE1) hE2) hE3))) (fun hS2 => ?_)
            clear hS hK K
            have hS := hS2
            clear hS2
            try simp only [List.getElem_toArray, List.getElem_cons_zero, List.getElem_cons_succ, Act.put, List.setIfInBounds_toArray, List.set_cons_zero, List.set_cons_succ]
            refine wpAnyH_ready (rs := [11]) (by kernel_rfl) (by simp) ?_
            refine AllReadyH.cons rfl (fun K hK => ?_) AllReadyH.nil
            try simp only [List.getElem_toArray, List.getElem_cons_zero, List.getElem_cons_succ, Act.put, List.setIfInBounds_toArray, List.set_cons_zero, List.set_cons_succ]
            go_simp
            refine (assartref13_Purse_Has.calls ((rpopL L a).length + 1) A2 c2 (rpopL L a) b (rhas (rpopL L a) b) _ (Kd.C_below HC5.out (bthen (bthen (bthen (below_drew (Below.refl _ _)) hE1) hE2) hE3)) HN5.out (has_f (rpopL L a) b (by have := HT5.out; omega))).mono ?_
            rintro e z4 ⟨rfl, hE4⟩
            refine hK.out _ _ (by first | exact blk6 (blk_below (blk_below (blk_below (blk_below (blk_drew HX5.out) hE1) hE2) hE3) hE4) (blk_below (blk_below (blk_below (blk_below (blk_drew HR5.out) hE1) hE2) hE3) hE4) | (dsimp only; exact blk6 (blk_below (blk_below (blk_below (blk_below (blk_drew HX5.out) hE1) hE2) hE3) hE4) (blk_below (blk_below (blk_below (blk_below (blk_drew HR5.out) hE1) hE2) hE3) hE4))) (fun hS2 => ?_)
            clear hS hK K
            have hS := hS2
            clear hS2
            try simp only [List.getElem_toArray, List.getElem_cons_zero, List.getElem_cons_succ, Act.put, List.setIfInBounds_toArray, List.set_cons_zero, List.set_cons_succ]
            refine wpAnyH_take (i := 12) (v := ?_) rfl (by kernel_rfl) (by kernel_rfl) (by kernel_rfl) (fun _ _ _ h => h) (Or.inl ⟨by rfl, ?_⟩) hS ?_
            rotate_left
            · intro wS hW; (try dsimp only at hW); obtain ⟨W0, W1, W2, W3, W4, W5⟩ := hW; go_simp; (try with_reducible rfl)
            try simp only [List.getElem_toArray, List.getElem_cons_zero, List.getElem_cons_succ, Act.put, List.setIfInBounds_toArray, List.set_cons_zero, List.set_cons_succ]
            refine wpAnyH_take (i := 13) (v := ?_) rfl (by kernel_rfl) (by kernel_rfl) (by kernel_rfl) (fun _ _ _ h => h) (Or.inl ⟨by rfl, ?_⟩) hS ?_
            rotate_left
            · intro wS hW; (try dsimp only at hW); obtain ⟨W0, W1, W2, W3, W4, W5⟩ := hW; go_simp; (try with_reducible rfl)
            try simp only [List.getElem_toArray, List.getElem_cons_zero, List.getElem_cons_succ, Act.put, List.setIfInBounds_toArray, List.set_cons_zero, List.set_cons_succ]
            refine wpAnyH_done (by kernel_rfl) ?_ _
            have hZ : Below wz.heap.size wz z4 := bthen (bthen (bthen (bthen (below_drew (Below.refl _ _)) hE1) hE2) hE3) hE4
            clear hS
            go_wp2_with fail
            go_roundg gk
            case measure => omega
            case rel =>
              obtain ⟨hi0, hik, hlt⟩ := HI.out
              have hn := HN.out
              have ht := HT5.out
              exact ⟨i + 1, P2, (popX X a), A2, c2, (rpopL L a), by rw [w64 (by omega) (by omega)], by omega, by omega, ⟨blk_below HX5.out hZ⟩, ⟨blk_below HR5.out hZ⟩, ⟨HP5.out.below hZ⟩, ⟨Kd.R_below HK5.out hZ⟩, ⟨HF5.out⟩, ⟨by omega⟩, bthen HB5.out hZ⟩
      · have b2 : (k == 2) = false := beq_eq_false_iff_ne.2 e2
        clear e2
        go_upto_region 15 with fail
        go_cut [14, 15] (fun s14 s15 wx => ∃ (g : Nat) (P2 : Nat → Sv), s14 = .pointer (some ⟨g, 0, none⟩) ∧ s15 = .bool (rpushOk L a y) ∧ Aside0 (wx.heap[g]? = some (.cells #[.slice (P2 0).A (P2 0).n (P2 0).c, .slice (P2 1).A (P2 1).n (P2 1).c, .slice (P2 2).A (P2 2).n (P2 2).c, .slice (P2 3).A (P2 3).n (P2 3).c, .slice (P2 4).A (P2 4).n (P2 4).c] 27)) ∧ Aside0 (PR wx P2 (pushX X a x y)) ∧ Aside0 (wr.heap.size ≤ g) ∧ Aside0 (Below wr.heap.size wr wx))
        case first =>
          have KS : Aside0 (∀ w', Below wr.heap.size wr w' → (w'.cell? ⟨w.heap.size, 0, none⟩ = some (.slice (P 0).A (P 0).n (P 0).c) ∧ w'.cell? ⟨w.heap.size, 1, none⟩ = some (.slice (P 1).A (P 1).n (P 1).c) ∧ w'.cell? ⟨w.heap.size, 2, none⟩ = some (.slice (P 2).A (P 2).n (P 2).c) ∧ w'.cell? ⟨w.heap.size, 3, none⟩ = some (.slice (P 3).A (P 3).n (P 3).c) ∧ w'.cell? ⟨w.heap.size, 4, none⟩ = some (.slice (P 4).A (P 4).n (P 4).c) ∧ w'.cell? ⟨(ad.add (i.toNat * 4)).block, (ad.add (i.toNat * 4)).off + 1, none⟩ = some (.int .i64 a) ∧ w'.cell? ⟨(ad.add (i.toNat * 4)).block, (ad.add (i.toNat * 4)).off + 2, none⟩ = some (.int .i64 x) ∧ w'.cell? ⟨(ad.add (i.toNat * 4)).block, (ad.add (i.toNat * 4)).off + 3, none⟩ = some (.int .i64 y))) := ⟨fun w' hb => ⟨pw_cell_below hb d0, pw_cell_below hb d1, pw_cell_below hb d2, pw_cell_below hb d3, pw_cell_below hb d4, pw_cell_below hb ha, pw_cell_below hb hx, pw_cell_below hb hy⟩⟩
          have hT0 := Aside0.mk (show total X ≤ 1000000 by have := HT.out; have := HN.out; have := HI.out; omega)
          have BW := below_drew (Below.refl wr.heap.size wr)
          have BN := below_drew (ballo (Below.refl wr.heap.size wr) (.cells #[.slice none 0 0, .slice none 0 0, .slice none 0 0, .slice none 0 0, .slice none 0 0] 27))
          have qn := blk_drew (blk_new wr (.cells #[.slice none 0 0, .slice none 0 0, .slice none 0 0, .slice none 0 0, .slice none 0 0] 27))
          have HBN := Aside0.mk BN
          have HBW := Aside0.mk BW
          have HQN := Aside0.mk qn
          clear BW BN qn
          go_region_held3 (fun w' => w'.cell? ⟨w.heap.size, 0, none⟩ = some (.slice (P 0).A (P 0).n (P 0).c) ∧ w'.cell? ⟨w.heap.size, 1, none⟩ = some (.slice (P 1).A (P 1).n (P 1).c) ∧ w'.cell? ⟨w.heap.size, 2, none⟩ = some (.slice (P 2).A (P 2).n (P 2).c) ∧ w'.cell? ⟨w.heap.size, 3, none⟩ = some (.slice (P 3).A (P 3).n (P 3).c) ∧ w'.cell? ⟨w.heap.size, 4, none⟩ = some (.slice (P 4).A (P 4).n (P 4).c) ∧ w'.cell? ⟨(ad.add (i.toNat * 4)).block, (ad.add (i.toNat * 4)).off + 1, none⟩ = some (.int .i64 a) ∧ w'.cell? ⟨(ad.add (i.toNat * 4)).block, (ad.add (i.toNat * 4)).off + 2, none⟩ = some (.int .i64 x) ∧ w'.cell? ⟨(ad.add (i.toNat * 4)).block, (ad.add (i.toNat * 4)).off + 3, none⟩ = some (.int .i64 y))
            (first | (with_reducible exact KS.out _ HBW.out) | (with_reducible exact KS.out _ HBN.out) | (with_reducible exact KS.out _ hX) | (with_reducible exact KS.out _ (ballo hX _)) | (with_reducible exact KS.out _ (below_set5 hX (Nat.le_refl _) _ _ _ _ _)) | exact KS.out _ (below_set5 (ballo hX _) hX.size _ _ _ _ _))
            (first | (go_at_call 7; refine (push_fit P X L a x y _ (HP.out.below HBW.out) hT0.out HF.out).mono ?_; rintro e w2 ⟨P2, rfl, hP2, hB2⟩; have hX : Below wr.heap.size wr w2 := bthen HBW.out hB2; obtain ⟨e0, e1, e2, e3, e4⟩ := blk5 (blk_new w2 (.cells #[.slice none 0 0, .slice none 0 0, .slice none 0 0, .slice none 0 0, .slice none 0 0] 27)); have ef := blk_frozen (blk_new w2 (.cells #[.slice none 0 0, .slice none 0 0, .slice none 0 0, .slice none 0 0, .slice none 0 0] 27))) | (go_at_call 7; refine (push_fit P X L a x y _ (HP.out.below HBN.out) hT0.out HF.out).mono ?_; rintro e w2 ⟨P2, rfl, hP2, hB2⟩; have hX : Below wr.heap.size wr w2 := bthen HBN.out hB2; have qn2 := blk_below HQN.out hB2; obtain ⟨e0, e1, e2, e3, e4⟩ := blk5 qn2; have ef := blk_frozen qn2))
          all_goals
            go_wp2_with fail
            go_meet
          · exact ⟨w2.heap.size, P2, rfl, rfl, ⟨blk_new w2 _⟩, ⟨hP2.below (ballo (Below.refl _ _) _)⟩, ⟨hX.size⟩, ⟨ballo hX _⟩⟩
          · exact ⟨wr.heap.size, P2, rfl, rfl, ⟨set5_blk qn2 _ _ _ _ _ rfl⟩, ⟨hP2.set5 (hP2.far qn2 nils_slices) _ _ _ _ _⟩, ⟨Nat.le_refl _⟩, ⟨below_set5 hX (Nat.le_refl _) _ _ _ _ _⟩⟩
        case rest =>
          obtain ⟨wx, rfl⟩ : ∃ wx : World, wx = wc := ⟨_, rfl⟩
          obtain ⟨g, P2, rfl, rfl, HQg, HP2, Hg, HXW⟩ := hcut
          obtain ⟨r0, r0f⟩ := blk5a (blk_below HBr.out HXW.out)
          replace ha := pw_cell_below HXW.out ha
          replace hx := pw_cell_below HXW.out hx
          replace hy := pw_cell_below HXW.out hy
          have HBX := Aside0.mk (bthen hbel HXW.out)
          clear d0 d1 d2 d3 d4
          go_upto_region 16 with fail
          go_cut [16, 17] (fun s16 s17 wy => ∃ (h : Nat) (A2 : Option Addr) (c2 : Nat), s16 = .pointer (some ⟨h, 0, none⟩) ∧ s17 = .bool (rpushOk L a y) ∧ Aside0 (wy.heap[h]? = some (.cells #[.slice A2 (rpushL L a x y).length c2] 40)) ∧ Aside0 (Kd.R k55 55 wy w.heap.size (fun _ => True) (.slice A2 (rpushL L a x y).length c2) (rpushL L a x y)) ∧ Aside0 (wx.heap.size ≤ h) ∧ Aside0 (Below wx.heap.size wx wy))
          case first =>
            have KS : Aside0 (∀ w', Below wx.heap.size wx w' → (w'.cell? ⟨w.heap.size + 1, 0, none⟩ = some (.slice Ar L.length cr) ∧ w'.cell? ⟨(ad.add (i.toNat * 4)).block, (ad.add (i.toNat * 4)).off + 1, none⟩ = some (.int .i64 a) ∧ w'.cell? ⟨(ad.add (i.toNat * 4)).block, (ad.add (i.toNat * 4)).off + 2, none⟩ = some (.int .i64 x) ∧ w'.cell? ⟨(ad.add (i.toNat * 4)).block, (ad.add (i.toNat * 4)).off + 3, none⟩ = some (.int .i64 y))) := ⟨fun w' hb => ⟨pw_cell_below hb r0, pw_cell_below hb ha, pw_cell_below hb hx, pw_cell_below hb hy⟩⟩
            have hL0 := Aside0.mk (show L.length ≤ 1000 by have := HT.out; have := HN.out; have := HI.out; omega)
            have HBW := Aside0.mk (below_drew (Below.refl wx.heap.size wx))
            have HBN := Aside0.mk (below_drew (ballo (Below.refl wx.heap.size wx) (.cells #[.slice none 0 0] 40)))
            have HQN := Aside0.mk (blk_drew (blk_new wx (.cells #[.slice none 0 0] 40)))
            go_region_held3 (fun w' => w'.cell? ⟨w.heap.size + 1, 0, none⟩ = some (.slice Ar L.length cr) ∧ w'.cell? ⟨(ad.add (i.toNat * 4)).block, (ad.add (i.toNat * 4)).off + 1, none⟩ = some (.int .i64 a) ∧ w'.cell? ⟨(ad.add (i.toNat * 4)).block, (ad.add (i.toNat * 4)).off + 2, none⟩ = some (.int .i64 x) ∧ w'.cell? ⟨(ad.add (i.toNat * 4)).block, (ad.add (i.toNat * 4)).off + 3, none⟩ = some (.int .i64 y))
              (first | (with_reducible exact KS.out _ HBW.out) | (with_reducible exact KS.out _ HBN.out) | (with_reducible exact KS.out _ hX) | (with_reducible exact KS.out _ (ballo hX _)) | (with_reducible exact KS.out _ (hX.setCell (Nat.le_refl _) _)) | exact KS.out _ ((ballo hX _).setCell hX.size _))
              (first | (go_at_call 13; refine (rpush_calls (.slice Ar L.length cr) L a x y w _ (bthen HBX.out HBW.out) (Kd.R_below HK.out (bthen HXW.out HBW.out)) hL0.out).mono ?_; rintro e w2 ⟨v2, rfl, hK2, hBB⟩; have hB2 := hBB; obtain ⟨A2, c2, rfl⟩ := Kd.R_slice hK2; have hX : Below wx.heap.size wx w2 := bthen HBW.out hB2; have qn2 := blk_new w2 (.cells #[.slice none 0 0] 40); obtain ⟨e0, ef⟩ := blk5a qn2) | (go_at_call 13; refine (rpush_calls (.slice Ar L.length cr) L a x y w _ (bthen HBX.out HBN.out) (Kd.R_below HK.out (bthen HXW.out HBN.out)) hL0.out).mono ?_; rintro e w2 ⟨v2, rfl, hK2, hBB⟩; have hB2 := hBB; obtain ⟨A2, c2, rfl⟩ := Kd.R_slice hK2; have hX : Below wx.heap.size wx w2 := bthen HBN.out hB2; have qn2 := blk_below HQN.out hB2; obtain ⟨e0, ef⟩ := blk5a qn2))
            all_goals
              go_wp2_with fail
              go_meet
            · exact ⟨w2.heap.size, A2, c2, rfl, rfl, ⟨blk_new w2 _⟩, ⟨Kd.R_alloc hK2 _⟩, ⟨hX.size⟩, ⟨ballo hX _⟩⟩
            · exact ⟨wx.heap.size, A2, c2, rfl, rfl, ⟨blk_set qn2 0 _⟩, ⟨Kd.R_set hK2 qn2 q55 0 _⟩, ⟨Nat.le_refl _⟩, ⟨hX.setCell (Nat.le_refl _) _⟩⟩
          case rest =>
            obtain ⟨wy, rfl⟩ : ∃ wy : World, wy = wc := ⟨_, rfl⟩
            obtain ⟨h, A2, c2, rfl, rfl, HQh, HK2, Hh, HYX⟩ := hcut
            have hQx := blk_below (blk_below HBx.out HXW.out) HYX.out
            have hQr := blk_below (blk_below HBr.out HXW.out) HYX.out
            have hQg := blk_below HQg.out HYX.out
            have hlx : w.heap.size + 1 < wr.heap.size := blk_lt HBr.out
            have hwx := HXW.out.size
            have hgh : w.heap.size + 1 < g ∧ w.heap.size + 1 < h := ⟨by have := Hg.out; omega, by have := Hh.out; omega⟩
            obtain ⟨d0, d1, d2, d3, d4⟩ := blk5 hQx
            have df := blk_frozen hQx
            obtain ⟨g0, g1, g2, g3, g4⟩ := blk5 hQg
            have s5 := set5_far (g := w.heap.size) (a := ⟨h, 0, none⟩) (by simp only; omega) (blk5a HQh.out).1 (.slice (P2 0).A (P2 0).n (P2 0).c) (.slice (P2 1).A (P2 1).n (P2 1).c) (.slice (P2 2).A (P2 2).n (P2 2).c) (.slice (P2 3).A (P2 3).n (P2 3).c) (.slice (P2 4).A (P2 4).n (P2 4).c)
            obtain ⟨r5, r5f⟩ := blk5a (set5_oth (g := w.heap.size) hQr (by omega) (.slice (P2 0).A (P2 0).n (P2 0).c) (.slice (P2 1).A (P2 1).n (P2 1).c) (.slice (P2 2).A (P2 2).n (P2 2).c) (.slice (P2 3).A (P2 3).n (P2 3).c) (.slice (P2 4).A (P2 4).n (P2 4).c))
            have HPZ : Aside0 (PR ((((((wy.setCell ⟨w.heap.size, 0, none⟩ (.slice (P2 0).A (P2 0).n (P2 0).c)).setCell ⟨w.heap.size, 1, none⟩ (.slice (P2 1).A (P2 1).n (P2 1).c)).setCell ⟨w.heap.size, 2, none⟩ (.slice (P2 2).A (P2 2).n (P2 2).c)).setCell ⟨w.heap.size, 3, none⟩ (.slice (P2 3).A (P2 3).n (P2 3).c)).setCell ⟨w.heap.size, 4, none⟩ (.slice (P2 4).A (P2 4).n (P2 4).c)).setCell ⟨w.heap.size + 1, 0, none⟩ (.slice A2 (rpushL L a x y).length c2)) P2 (pushX X a x y)) := ⟨fun i hi => PR.set1 ((HP2.out.below HYX.out).set5 ((HP2.out.below HYX.out).far hQx (five_slices P)) (.slice (P2 0).A (P2 0).n (P2 0).c) (.slice (P2 1).A (P2 1).n (P2 1).c) (.slice (P2 2).A (P2 2).n (P2 2).c) (.slice (P2 3).A (P2 3).n (P2 3).c) (.slice (P2 4).A (P2 4).n (P2 4).c)) (((HP2.out.below HYX.out).set5 ((HP2.out.below HYX.out).far hQx (five_slices P)) (.slice (P2 0).A (P2 0).n (P2 0).c) (.slice (P2 1).A (P2 1).n (P2 1).c) (.slice (P2 2).A (P2 2).n (P2 2).c) (.slice (P2 3).A (P2 3).n (P2 3).c) (.slice (P2 4).A (P2 4).n (P2 4).c)).far (set5_oth (g := w.heap.size) hQr (by omega) (.slice (P2 0).A (P2 0).n (P2 0).c) (.slice (P2 1).A (P2 1).n (P2 1).c) (.slice (P2 2).A (P2 2).n (P2 2).c) (.slice (P2 3).A (P2 3).n (P2 3).c) (.slice (P2 4).A (P2 4).n (P2 4).c)) one_slice) 0 _ i hi⟩
            have HKZ : Aside0 (Kd.R k55 55 ((((((wy.setCell ⟨w.heap.size, 0, none⟩ (.slice (P2 0).A (P2 0).n (P2 0).c)).setCell ⟨w.heap.size, 1, none⟩ (.slice (P2 1).A (P2 1).n (P2 1).c)).setCell ⟨w.heap.size, 2, none⟩ (.slice (P2 2).A (P2 2).n (P2 2).c)).setCell ⟨w.heap.size, 3, none⟩ (.slice (P2 3).A (P2 3).n (P2 3).c)).setCell ⟨w.heap.size, 4, none⟩ (.slice (P2 4).A (P2 4).n (P2 4).c)).setCell ⟨w.heap.size + 1, 0, none⟩ (.slice A2 (rpushL L a x y).length c2)) w.heap.size (fun _ => True) (.slice A2 (rpushL L a x y).length c2) (rpushL L a x y)) := ⟨Kd.R_set (r_set5 HK2.out hQx (.slice (P2 0).A (P2 0).n (P2 0).c) (.slice (P2 1).A (P2 1).n (P2 1).c) (.slice (P2 2).A (P2 2).n (P2 2).c) (.slice (P2 3).A (P2 3).n (P2 3).c) (.slice (P2 4).A (P2 4).n (P2 4).c)) (set5_oth (g := w.heap.size) hQr (by omega) (.slice (P2 0).A (P2 0).n (P2 0).c) (.slice (P2 1).A (P2 1).n (P2 1).c) (.slice (P2 2).A (P2 2).n (P2 2).c) (.slice (P2 3).A (P2 3).n (P2 3).c) (.slice (P2 4).A (P2 4).n (P2 4).c)) q55 0 _⟩
            have HXZ : Aside0 (((((((wy.setCell ⟨w.heap.size, 0, none⟩ (.slice (P2 0).A (P2 0).n (P2 0).c)).setCell ⟨w.heap.size, 1, none⟩ (.slice (P2 1).A (P2 1).n (P2 1).c)).setCell ⟨w.heap.size, 2, none⟩ (.slice (P2 2).A (P2 2).n (P2 2).c)).setCell ⟨w.heap.size, 3, none⟩ (.slice (P2 3).A (P2 3).n (P2 3).c)).setCell ⟨w.heap.size, 4, none⟩ (.slice (P2 4).A (P2 4).n (P2 4).c)).setCell ⟨w.heap.size + 1, 0, none⟩ (.slice A2 (rpushL L a x y).length c2)).heap[w.heap.size]? = some (.cells #[.slice (P2 0).A (P2 0).n (P2 0).c, .slice (P2 1).A (P2 1).n (P2 1).c, .slice (P2 2).A (P2 2).n (P2 2).c, .slice (P2 3).A (P2 3).n (P2 3).c, .slice (P2 4).A (P2 4).n (P2 4).c] 27)) := ⟨blk_far (set5_blk hQx (.slice (P2 0).A (P2 0).n (P2 0).c) (.slice (P2 1).A (P2 1).n (P2 1).c) (.slice (P2 2).A (P2 2).n (P2 2).c) (.slice (P2 3).A (P2 3).n (P2 3).c) (.slice (P2 4).A (P2 4).n (P2 4).c) rfl) (by simp) _⟩
            have HRZ : Aside0 (((((((wy.setCell ⟨w.heap.size, 0, none⟩ (.slice (P2 0).A (P2 0).n (P2 0).c)).setCell ⟨w.heap.size, 1, none⟩ (.slice (P2 1).A (P2 1).n (P2 1).c)).setCell ⟨w.heap.size, 2, none⟩ (.slice (P2 2).A (P2 2).n (P2 2).c)).setCell ⟨w.heap.size, 3, none⟩ (.slice (P2 3).A (P2 3).n (P2 3).c)).setCell ⟨w.heap.size, 4, none⟩ (.slice (P2 4).A (P2 4).n (P2 4).c)).setCell ⟨w.heap.size + 1, 0, none⟩ (.slice A2 (rpushL L a x y).length c2)).heap[w.heap.size + 1]? = some (.cells #[.slice A2 (rpushL L a x y).length c2] 40)) := ⟨blk_set (set5_oth (g := w.heap.size) hQr (by omega) (.slice (P2 0).A (P2 0).n (P2 0).c) (.slice (P2 1).A (P2 1).n (P2 1).c) (.slice (P2 2).A (P2 2).n (P2 2).c) (.slice (P2 3).A (P2 3).n (P2 3).c) (.slice (P2 4).A (P2 4).n (P2 4).c)) 0 _⟩
            have HBZ : Aside0 (Below w.heap.size w ((((((wy.setCell ⟨w.heap.size, 0, none⟩ (.slice (P2 0).A (P2 0).n (P2 0).c)).setCell ⟨w.heap.size, 1, none⟩ (.slice (P2 1).A (P2 1).n (P2 1).c)).setCell ⟨w.heap.size, 2, none⟩ (.slice (P2 2).A (P2 2).n (P2 2).c)).setCell ⟨w.heap.size, 3, none⟩ (.slice (P2 3).A (P2 3).n (P2 3).c)).setCell ⟨w.heap.size, 4, none⟩ (.slice (P2 4).A (P2 4).n (P2 4).c)).setCell ⟨w.heap.size + 1, 0, none⟩ (.slice A2 (rpushL L a x y).length c2))) := ⟨(below_set5 (bthen HBX.out HYX.out) (Nat.le_refl _) (.slice (P2 0).A (P2 0).n (P2 0).c) (.slice (P2 1).A (P2 1).n (P2 1).c) (.slice (P2 2).A (P2 2).n (P2 2).c) (.slice (P2 3).A (P2 3).n (P2 3).c) (.slice (P2 4).A (P2 4).n (P2 4).c)).setCell (Nat.le_succ _) _⟩
            have HFZ : Aside0 (Fits (pushX X a x y) (rpushL L a x y)) := ⟨(HF.out.push a x y).2⟩
            have HTZ : Aside0 ((total (pushX X a x y) : Int) ≤ i + 1 ∧ ((rpushL L a x y).length : Int) ≤ i + 1) := ⟨by have h1 := pushX_total X a x y; have h2 := rpush_len L a x y; have := HT.out; omega⟩
            clear hQx hQr hQg hlx hwx
            go_wp2_with fail
            generalize hz : ((((((wy.setCell ⟨w.heap.size, 0, none⟩ (.slice (P2 0).A (P2 0).n (P2 0).c)).setCell ⟨w.heap.size, 1, none⟩ (.slice (P2 1).A (P2 1).n (P2 1).c)).setCell ⟨w.heap.size, 2, none⟩ (.slice (P2 2).A (P2 2).n (P2 2).c)).setCell ⟨w.heap.size, 3, none⟩ (.slice (P2 3).A (P2 3).n (P2 3).c)).setCell ⟨w.heap.size, 4, none⟩ (.slice (P2 4).A (P2 4).n (P2 4).c)).setCell ⟨w.heap.size + 1, 0, none⟩ (.slice A2 (rpushL L a x y).length c2)) = wz at *
            have hrd := Kd.R_reads' HKZ.out
            have HX5 := Aside0.mk HXZ.out
            have HR5 := Aside0.mk HRZ.out
            have HP5 := Aside0.mk HPZ.out
            have HC5 := Aside0.mk hrd.2.2
            have HN5 := Aside0.mk hrd.2.1
            have HF5 := Aside0.mk HFZ.out
            have HT5 := Aside0.mk (show (total (pushX X a x y) : Int) ≤ i + 1 ∧ ((rpushL L a x y).length : Int) ≤ i + 1 ∧ i < 100 from ⟨HTZ.out.1, HTZ.out.2, by have := HI.out; have := HN.out; omega⟩)
            have HK5 := Aside0.mk HKZ.out
            have HB5 := Aside0.mk HBZ.out
            clear hrd HXZ HRZ HPZ HFZ HTZ HKZ HBZ hz d0 d1 d2 d3 d4 df g0 g1 g2 g3 g4 s5 r5 r5f r0 r0f
            refine wp_region_held_drew (S := fun w' => w'.cell? ⟨w.heap.size, 0, none⟩ = some (.slice (P2 0).A (P2 0).n (P2 0).c) ∧ w'.cell? ⟨w.heap.size, 1, none⟩ = some (.slice (P2 1).A (P2 1).n (P2 1).c) ∧ w'.cell? ⟨w.heap.size, 2, none⟩ = some (.slice (P2 2).A (P2 2).n (P2 2).c) ∧ w'.cell? ⟨w.heap.size, 3, none⟩ = some (.slice (P2 3).A (P2 3).n (P2 3).c) ∧ w'.cell? ⟨w.heap.size, 4, none⟩ = some (.slice (P2 4).A (P2 4).n (P2 4).c) ∧ w'.cell? ⟨w.heap.size + 1, 0, none⟩ = some (.slice A2 (rpushL L a x y).length c2)) (by kernel_rfl) (by first | exact blk6 (blk_drew HX5.out) (blk_drew HR5.out) | (dsimp only; exact blk6 (blk_drew HX5.out) (blk_drew HR5.out))) (fun hS => ?_)
            refine wpAnyH_take (i := 0) (v := ?_) rfl (by kernel_rfl) (by kernel_rfl) (by kernel_rfl) (fun _ _ _ h => h) (Or.inl ⟨by rfl, ?_⟩) hS ?_
            rotate_left
            · intro wS hW; (try dsimp only at hW); obtain ⟨W0, W1, W2, W3, W4, W5⟩ := hW; go_simp; (try with_reducible rfl)
            try simp only [List.getElem_toArray, List.getElem_cons_zero, List.getElem_cons_succ, Act.put, List.setIfInBounds_toArray, List.set_cons_zero, List.set_cons_succ]
            refine wpAnyH_take (i := 2) (v := ?_) rfl (by kernel_rfl) (by kernel_rfl) (by kernel_rfl) (fun _ _ _ h => h) (Or.inl ⟨by rfl, ?_⟩) hS ?_
            rotate_left
            · intro wS hW; (try dsimp only at hW); obtain ⟨W0, W1, W2, W3, W4, W5⟩ := hW; go_simp; (try with_reducible rfl)
            try simp only [List.getElem_toArray, List.getElem_cons_zero, List.getElem_cons_succ, Act.put, List.setIfInBounds_toArray, List.set_cons_zero, List.set_cons_succ]
            refine wpAnyH_ready (rs := [1]) (by kernel_rfl) (by simp) ?_
            refine AllReadyH.cons rfl (fun K hK => ?_) AllReadyH.nil
            try simp only [List.getElem_toArray, List.getElem_cons_zero, List.getElem_cons_succ, Act.put, List.setIfInBounds_toArray, List.set_cons_zero, List.set_cons_succ]
            go_simp
            refine (of_calls P2 _).mono ?_
            rintro e z1 ⟨rfl, hE1⟩
            refine hK.out _ _ (by first | exact blk6 (blk_below (blk_drew HX5.out) hE1) (blk_below (blk_drew HR5.out) hE1) | (dsimp only; exact blk6 (blk_below (blk_drew HX5.out) hE1) (blk_below (blk_drew HR5.out) hE1))) (fun hS2 => ?_)
            clear hS hK K
            have hS := hS2
            clear hS2
            try simp only [List.getElem_toArray, List.getElem_cons_zero, List.getElem_cons_succ, Act.put, List.setIfInBounds_toArray, List.set_cons_zero, List.set_cons_succ]
            refine wpAnyH_ready (rs := [3]) (by kernel_rfl) (by simp) ?_
            refine AllReadyH.cons rfl (fun K hK => ?_) AllReadyH.nil
            try simp only [List.getElem_toArray, List.getElem_cons_zero, List.getElem_cons_succ, Act.put, List.setIfInBounds_toArray, List.set_cons_zero, List.set_cons_succ]
            go_simp
            refine (ksame_calls P2 (pushX X a x y) A2 c2 (rpushL L a x y) _ (HP5.out.below (bthen (below_drew (Below.refl _ _)) hE1)) (Kd.C_below HC5.out (bthen (below_drew (Below.refl _ _)) hE1)) HN5.out HF5.out (by have := HT5.out; omega) (by have := HT5.out; omega)).mono ?_
            rintro e z2 ⟨rfl, hE2⟩
            refine hK.out _ _ (by first | exact blk6 (blk_below (blk_below (blk_drew HX5.out) hE1) hE2) (blk_below (blk_below (blk_drew HR5.out) hE1) hE2) | (dsimp only; exact blk6 (blk_below (blk_below (blk_drew HX5.out) hE1) hE2) (blk_below (blk_below (blk_drew HR5.out) hE1) hE2))) (fun hS2 => ?_)
            clear hS hK K
            have hS := hS2
            clear hS2
            try simp only [List.getElem_toArray, List.getElem_cons_zero, List.getElem_cons_succ, Act.put, List.setIfInBounds_toArray, List.set_cons_zero, List.set_cons_succ]
            refine wpAnyH_take (i := 4) (v := ?_) rfl (by kernel_rfl) (by kernel_rfl) (by kernel_rfl) (fun _ _ _ h => h) (Or.inl ⟨by rfl, ?_⟩) hS ?_
            rotate_left
            · intro wS hW; (try dsimp only at hW); obtain ⟨W0, W1, W2, W3, W4, W5⟩ := hW; go_simp; (try with_reducible rfl)
            try simp only [List.getElem_toArray, List.getElem_cons_zero, List.getElem_cons_succ, Act.put, List.setIfInBounds_toArray, List.set_cons_zero, List.set_cons_succ]
            refine wpAnyH_take (i := 5) (v := ?_) rfl (by kernel_rfl) (by kernel_rfl) (by kernel_rfl) (fun _ _ _ h => h) (Or.inl ⟨by rfl, ?_⟩) hS ?_
            rotate_left
            · intro wS hW; (try dsimp only at hW); obtain ⟨W0, W1, W2, W3, W4, W5⟩ := hW; go_simp; (try with_reducible rfl)
            try simp only [List.getElem_toArray, List.getElem_cons_zero, List.getElem_cons_succ, Act.put, List.setIfInBounds_toArray, List.set_cons_zero, List.set_cons_succ]
            refine wpAnyH_take (i := 6) (v := ?_) rfl (by kernel_rfl) (by kernel_rfl) (by kernel_rfl) (fun _ _ _ h => h) (Or.inl ⟨by rfl, ?_⟩) hS ?_
            rotate_left
            · intro wS hW; (try dsimp only at hW); obtain ⟨W0, W1, W2, W3, W4, W5⟩ := hW; go_simp; (try with_reducible rfl)
            try simp only [List.getElem_toArray, List.getElem_cons_zero, List.getElem_cons_succ, Act.put, List.setIfInBounds_toArray, List.set_cons_zero, List.set_cons_succ]
            refine wpAnyH_take (i := 7) (v := ?_) rfl (by kernel_rfl) (by kernel_rfl) (by kernel_rfl) (fun _ _ _ h => h) (Or.inl ⟨by rfl, ?_⟩) hS ?_
            rotate_left
            · intro wS hW; (try dsimp only at hW); obtain ⟨W0, W1, W2, W3, W4, W5⟩ := hW; go_simp; (try with_reducible rfl)
            try simp only [List.getElem_toArray, List.getElem_cons_zero, List.getElem_cons_succ, Act.put, List.setIfInBounds_toArray, List.set_cons_zero, List.set_cons_succ]
            refine wpAnyH_take (i := 9) (v := ?_) rfl (by kernel_rfl) (by kernel_rfl) (by kernel_rfl) (fun _ _ _ h => h) (Or.inl ⟨by rfl, ?_⟩) hS ?_
            rotate_left
            · intro wS hW; (try dsimp only at hW); obtain ⟨W0, W1, W2, W3, W4, W5⟩ := hW; go_simp; (try with_reducible rfl)
            try simp only [List.getElem_toArray, List.getElem_cons_zero, List.getElem_cons_succ, Act.put, List.setIfInBounds_toArray, List.set_cons_zero, List.set_cons_succ]
            refine wpAnyH_take (i := 10) (v := ?_) rfl (by kernel_rfl) (by kernel_rfl) (by kernel_rfl) (fun _ _ _ h => h) (Or.inl ⟨by rfl, ?_⟩) hS ?_
            rotate_left
            · intro wS hW; (try dsimp only at hW); obtain ⟨W0, W1, W2, W3, W4, W5⟩ := hW; go_simp; (try with_reducible rfl)
            try simp only [List.getElem_toArray, List.getElem_cons_zero, List.getElem_cons_succ, Act.put, List.setIfInBounds_toArray, List.set_cons_zero, List.set_cons_succ]
            refine wpAnyH_ready (rs := [8]) (by kernel_rfl) (by simp) ?_
            refine AllReadyH.cons rfl (fun K hK => ?_) AllReadyH.nil
            try simp only [List.getElem_toArray, List.getElem_cons_zero, List.getElem_cons_succ, Act.put, List.setIfInBounds_toArray, List.set_cons_zero, List.set_cons_succ]
            go_simp
            refine (has_fit P2 (pushX X a x y) (rpushL L a x y) b _ (HP5.out.below (bthen (bthen (below_drew (Below.refl _ _)) hE1) hE2)) (by have := HT5.out; omega) HF5.out).mono ?_
            rintro e z3 ⟨rfl, hE3⟩
            refine hK.out _ _ (by first | exact blk6 (blk_below (blk_below (blk_below (blk_drew HX5.out) hE1) hE2) hE3) (blk_below (blk_below (blk_below (blk_drew HR5.out) hE1) hE2) hE3) | (dsimp only; exact blk6 (blk_below (blk_below (blk_below (blk_drew HX5.out) hE1) hE2) hE3) (blk_below (blk_below (blk_below (blk_drew HR5.out) hE1) hE2) hE3))) (fun hS2 => ?_)
            clear hS hK K
            have hS := hS2
            clear hS2
            try simp only [List.getElem_toArray, List.getElem_cons_zero, List.getElem_cons_succ, Act.put, List.setIfInBounds_toArray, List.set_cons_zero, List.set_cons_succ]
            refine wpAnyH_ready (rs := [11]) (by kernel_rfl) (by simp) ?_
            refine AllReadyH.cons rfl (fun K hK => ?_) AllReadyH.nil
            try simp only [List.getElem_toArray, List.getElem_cons_zero, List.getElem_cons_succ, Act.put, List.setIfInBounds_toArray, List.set_cons_zero, List.set_cons_succ]
            go_simp
            refine (assartref13_Purse_Has.calls ((rpushL L a x y).length + 1) A2 c2 (rpushL L a x y) b (rhas (rpushL L a x y) b) _ (Kd.C_below HC5.out (bthen (bthen (bthen (below_drew (Below.refl _ _)) hE1) hE2) hE3)) HN5.out (has_f (rpushL L a x y) b (by have := HT5.out; omega))).mono ?_
            rintro e z4 ⟨rfl, hE4⟩
            refine hK.out _ _ (by first | exact blk6 (blk_below (blk_below (blk_below (blk_below (blk_drew HX5.out) hE1) hE2) hE3) hE4) (blk_below (blk_below (blk_below (blk_below (blk_drew HR5.out) hE1) hE2) hE3) hE4) | (dsimp only; exact blk6 (blk_below (blk_below (blk_below (blk_below (blk_drew HX5.out) hE1) hE2) hE3) hE4) (blk_below (blk_below (blk_below (blk_below (blk_drew HR5.out) hE1) hE2) hE3) hE4))) (fun hS2 => ?_)
            clear hS hK K
            have hS := hS2
            clear hS2
            try simp only [List.getElem_toArray, List.getElem_cons_zero, List.getElem_cons_succ, Act.put, List.setIfInBounds_toArray, List.set_cons_zero, List.set_cons_succ]
            refine wpAnyH_take (i := 12) (v := ?_) rfl (by kernel_rfl) (by kernel_rfl) (by kernel_rfl) (fun _ _ _ h => h) (Or.inl ⟨by rfl, ?_⟩) hS ?_
            rotate_left
            · intro wS hW; (try dsimp only at hW); obtain ⟨W0, W1, W2, W3, W4, W5⟩ := hW; go_simp; (try with_reducible rfl)
            try simp only [List.getElem_toArray, List.getElem_cons_zero, List.getElem_cons_succ, Act.put, List.setIfInBounds_toArray, List.set_cons_zero, List.set_cons_succ]
            refine wpAnyH_take (i := 13) (v := ?_) rfl (by kernel_rfl) (by kernel_rfl) (by kernel_rfl) (fun _ _ _ h => h) (Or.inl ⟨by rfl, ?_⟩) hS ?_
            rotate_left
            · intro wS hW; (try dsimp only at hW); obtain ⟨W0, W1, W2, W3, W4, W5⟩ := hW; go_simp; (try with_reducible rfl)
            try simp only [List.getElem_toArray, List.getElem_cons_zero, List.getElem_cons_succ, Act.put, List.setIfInBounds_toArray, List.set_cons_zero, List.set_cons_succ]
            refine wpAnyH_done (by kernel_rfl) ?_ _
            have hZ : Below wz.heap.size wz z4 := bthen (bthen (bthen (bthen (below_drew (Below.refl _ _)) hE1) hE2) hE3) hE4
            clear hS
            go_wp2_with fail
            go_roundg gk
            case measure => omega
            case rel =>
              obtain ⟨hi0, hik, hlt⟩ := HI.out
              have hn := HN.out
              have ht := HT5.out
              exact ⟨i + 1, P2, (pushX X a x y), A2, c2, (rpushL L a x y), by rw [w64 (by omega) (by omega)], by omega, by omega, ⟨blk_below HX5.out hZ⟩, ⟨blk_below HR5.out hZ⟩, ⟨HP5.out.below hZ⟩, ⟨Kd.R_below HK5.out hZ⟩, ⟨HF5.out⟩, ⟨by omega⟩, bthen HB5.out hZ⟩
    · have hd : decide (i < (n : Int)) = false := decide_eq_false hlt
      clear hi0 hik hlt
      go_wp2_with (go_at_call 5; refine (lives_calls _).mono ?_; rintro e w1 ⟨rfl, hB⟩)
      go_ret
      exact ⟨rfl, bthen hbel hB⟩

end Go.Proofs.Ytmgphebhfecfmaa.X

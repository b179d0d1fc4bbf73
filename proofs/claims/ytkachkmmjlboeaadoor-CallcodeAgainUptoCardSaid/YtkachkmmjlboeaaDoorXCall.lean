/- callcode.Call: contract by hand. Conditions: none. -/
import Derived.Test.YtkachkmmjlboeaaDoorXJoin
namespace Go.Proofs.YtkachkmmjlboeaaDoor.X
open Go.RowKit Go.Proofs.YtkachkmmjlboeaaDoor.YAll Go.Proofs.YtkachkmmjlboeaaDoorW.PrintWords Go.Proofs.YtkachkmmjlboeaaDoorW.PrintLast Go.Proofs.YtkachkmmjlboeaaDoorW.PrintMore
set_option linter.unusedVariables false
set_option linter.unusedSimpArgs false

def CallPost (w : World) (c : List Int) (e : Ending) (w' : World) : Prop := e = .returned (.tuple #[.string (bs (callT c).1), .int .i64 (callT c).2]) ∧ Below w.heap.size w w'
theorem blk2 {w : World} {g : Nat} {t : TypeId} {x y : Value} (h : w.heap[g]? = some (.cells #[x, y] t)) : w.cell? ⟨g, 0, none⟩ = some x ∧ w.cell? ⟨g, 1, none⟩ = some y ∧ ∀ i, w.frozen? ⟨g, i, none⟩ = false := ⟨blk_cell h 0, blk_cell h 1, fun i => blk_frozen h i⟩
theorem set2_blk {w : World} {g : Nat} {t : TypeId} {x y : Value} (h : w.heap[g]? = some (.cells #[x, y] t)) (x' y' : Value) : ((w.setCell ⟨g, 0, none⟩ x').setCell ⟨g, 1, none⟩ y').heap[g]? = some (.cells #[x', y'] t) := blk_set (blk_set h 0 x') 1 y'
theorem call_low (kd a s al v : Int) (w : World) (h : kd < 1) : Calls Tryd.prog 16 #[.agg #[.int .i64 kd, .int .i64 a, .int .i64 s, .int .i64 al, .int .i64 v]] w (CallPost w [kd, a, s, al, v]) := by
  have b0 : decide (kd < 1) = true := decide_eq_true h
  go_enter Tryd.func16, Tryd.ntmps16
  go_wp2
  go_ret2
  refine ⟨?_, ballo (Below.refl _ _) _⟩
  have e : callT [kd, a, s, al, v] = ([], 2) := by exact if_pos (Or.inl h)
  rw [e]; rfl
theorem call_high (kd a s al v : Int) (w : World) (h : 12 < kd) : Calls Tryd.prog 16 #[.agg #[.int .i64 kd, .int .i64 a, .int .i64 s, .int .i64 al, .int .i64 v]] w (CallPost w [kd, a, s, al, v]) := by
  have b0 : decide (kd < 1) = false := decide_eq_false (by omega)
  have b1 : decide (12 < kd) = true := decide_eq_true h
  go_enter Tryd.func16, Tryd.ntmps16
  go_wp2
  go_ret2
  refine ⟨?_, ballo (Below.refl _ _) _⟩
  have e : callT [kd, a, s, al, v] = ([], 2) := by exact if_pos (Or.inr h)
  rw [e]; rfl
set_option maxRecDepth 100000 in
set_option maxHeartbeats 2000000 in
theorem call_mid (kd a s al v : Int) (w : World) (h1 : 1 ≤ kd) (h2 : kd ≤ 12) (hc : ∀ x ∈ [kd, a, s, al, v], In64 x) : Calls Tryd.prog 16 #[.agg #[.int .i64 kd, .int .i64 a, .int .i64 s, .int .i64 al, .int .i64 v]] w (CallPost w [kd, a, s, al, v]) := by
  have b0 : decide (kd < 1) = false := decide_eq_false (by omega)
  have b1 : decide (12 < kd) = false := decide_eq_false (by omega)
  obtain ⟨k, hk⟩ : ∃ k : Nat, kd - 1 = (k : Int) := ⟨(kd - 1).toNat, by omega⟩
  have hk12 : k < 12 := by omega
  have ew : IntKind.i64.wrap (kd - 1) = (k : Int) := by rw [hk]; exact IntWalk.i64_in _ (by omega)
  have HC := Aside0.mk hc
  have HK := Aside0.mk hk
  clear hc hk
  go_enter Tryd.func16, Tryd.ntmps16
  go_upto_region 3 with fail
  generalize hw1 : w.alloc (Obj.cells #[.int .i64 kd, .int .i64 a, .int .i64 s, .int .i64 al, .int .i64 v] 32) = w1
  have HQ1 : Aside0 (CallAt w1 w.heap.size [kd, a, s, al, v]) := ⟨by rw [← hw1]; exact blk_new w _⟩
  have HB1 : Aside0 (Below w.heap.size w w1) := ⟨by rw [← hw1]; exact ballo (Below.refl _ _) _⟩
  have HL1 : Aside0 (w1.heap.size = w.heap.size + 1) := ⟨by rw [← hw1]; exact size_al _ _⟩
  clear hw1
  go_cut [4] (fun s4 wx => ∃ (g : Nat) (A : Option Addr), s4 = .pointer (some ⟨g, 0, none⟩) ∧ Aside0 (wx.heap[g]? = some (.cells #[.string (bs (wd k)), .slice A (pt k).length (pt k).length] 59)) ∧ Aside0 (PtsAt wx A (pt k)) ∧ Aside0 (w1.heap.size ≤ g) ∧ Aside0 (Below w1.heap.size w1 wx))
  case first =>
    have KS : Aside0 (∀ w', Below w1.heap.size w1 w' → w'.cell? ⟨w.heap.size, 0, none⟩ = some (.int .i64 kd)) := ⟨fun w' hb => pw_cell_below hb (HQ1.out.cell 0 (Nat.succ_pos _))⟩
    have HBW := Aside0.mk (below_drew (Below.refl w1.heap.size w1))
    have HBN := Aside0.mk (below_drew (ballo (Below.refl w1.heap.size w1) (Obj.cells #[.string ⟨#[]⟩, .slice none 0 0] 59)))
    have HQN := Aside0.mk (blk_drew (blk_new w1 (Obj.cells #[.string ⟨#[]⟩, .slice none 0 0] 59)))
    go_region_held3 (fun w' => w'.cell? ⟨w.heap.size, 0, none⟩ = some (.int .i64 kd))
      (first | (with_reducible exact KS.out _ HBW.out) | (with_reducible exact KS.out _ HBN.out) | (with_reducible exact KS.out _ hX) | (with_reducible exact KS.out _ (ballo hX _)) | (with_reducible exact KS.out _ ((hX.setCell (Nat.le_refl _) _).setCell (Nat.le_refl _) _)) | (with_reducible exact KS.out _ (hX.setCell (Nat.le_refl _) _)) | exact KS.out _ hX)
      (first
        | (go_at_call 26; refine (forms_calls _).mono ?_; rintro e w2 ⟨vs, rfl, hF, hB2⟩; have hX : Below w1.heap.size w1 w2 := bthen HBW.out hB2; obtain ⟨A, hP, hix⟩ := index_forms hF k hk12; obtain ⟨e0, e1, ef⟩ := blk2 (blk_new w2 (Obj.cells #[.string ⟨#[]⟩, .slice none 0 0] 59)))
        | (go_at_call 26; refine (forms_calls _).mono ?_; rintro e w2 ⟨vs, rfl, hF, hB2⟩; have hX : Below w1.heap.size w1 w2 := bthen HBN.out hB2; obtain ⟨A, hP, hix⟩ := index_forms hF k hk12; have qn2 := blk_below HQN.out hB2; obtain ⟨e0, e1, ef⟩ := blk2 qn2))
    all_goals
      go_wp2_with fail
      go_meet
      first
        | exact ⟨w2.heap.size, A, rfl, ⟨blk_new w2 _⟩, ⟨hP.below (ballo (Below.refl _ _) _)⟩, ⟨hX.size⟩, ⟨ballo hX _⟩⟩
        | exact ⟨w1.heap.size, A, rfl, ⟨set2_blk qn2 _ _⟩, ⟨PtsAt.set (hP.set qn2 (by decide) 0 _) (blk_set qn2 0 _) (by decide) 1 _⟩, ⟨Nat.le_refl _⟩, ⟨(hX.setCell (Nat.le_refl _) _).setCell (Nat.le_refl _) _⟩⟩
  case rest =>
    obtain ⟨wx, rfl⟩ : ∃ wx : World, wx = wc := ⟨_, rfl⟩
    obtain ⟨g, A, rfl, HG, HP, Hg, HX⟩ := hcut
    obtain ⟨g0, g1, gf⟩ := blk2 HG.out
    have c1 := (HQ1.out.below HX.out).cell 0 (Nat.succ_pos _)
    simp only [List.getD_cons_zero] at c1
    have HZ := Aside0.mk (And.intro h1 h2)
    clear h1 h2 ew
    have QX := HQ1.out.below HX.out
    have c2 := (QX.alloc (Obj.cells #[.string (bs (wd k))] 9)).cell 0 (Nat.succ_pos _)
    simp only [List.getD_cons_zero] at c2
    have g2 := (blk2 (blk_alloc (blk_alloc HG.out (Obj.cells #[.string (bs (wd k))] 9)) (Obj.cells #[.int .i64 kd, .int .i64 0, .int .i64 0, .int .i64 0, .int .i64 0] 32))).2.1
    go_wp2_with fail
    have S1 := ws_new wx w.heap.size (by have h1 := HL1.out; have h2 := HX.out.size; omega) (wd k)
    have P0 := (blk_newq (wx.alloc (Obj.cells #[.string (bs (wd k))] 9)) (Obj.cells #[.int .i64 kd, .int .i64 0, .int .i64 0, .int .i64 0, .int .i64 0] 32) (q := wx.heap.size + 1) (size_al _ _).symm)
    have S2 := Kd.R_alloc S1 (Obj.cells #[.int .i64 kd, .int .i64 0, .int .i64 0, .int .i64 0, .int .i64 0] 32)
    have B2 := ballo (ballo (bthen HB1.out HX.out) (Obj.cells #[.string (bs (wd k))] 9)) (Obj.cells #[.int .i64 kd, .int .i64 0, .int .i64 0, .int .i64 0, .int .i64 0] 32)
    have P2 := (HP.out.below (ballo (ballo (Below.refl _ _) (Obj.cells #[.string (bs (wd k))] 9)) (Obj.cells #[.int .i64 kd, .int .i64 0, .int .i64 0, .int .i64 0, .int .i64 0] 32)))
    have Q2 := ((QX.alloc (Obj.cells #[.string (bs (wd k))] 9)).alloc (Obj.cells #[.int .i64 kd, .int .i64 0, .int .i64 0, .int .i64 0, .int .i64 0] 32))
    generalize (wx.alloc (Obj.cells #[.string (bs (wd k))] 9)).alloc (Obj.cells #[.int .i64 kd, .int .i64 0, .int .i64 0, .int .i64 0, .int .i64 0] 32) = w6 at *
    have hq6 : w.heap.size < wx.heap.size + 1 := by have h1 := HL1.out; have h2 := HX.out.size; omega
    generalize wx.heap.size + 1 = q6 at *
    have L1 : Aside0 (Ws w6 w.heap.size (.slice (some ⟨wx.heap.size, 0, none⟩) 1 1) [wd k]) := ⟨S2⟩
    have L2 : Aside0 (CallAt w6 q6 [kd, 0, 0, 0, 0]) := ⟨P0⟩
    have L3 := Aside0.mk Q2
    have L4 := Aside0.mk P2
    have L5 := Aside0.mk B2
    clear S1 S2 P0 B2 P2 Q2 QX c2 g2 g0 g1 gf c1 HG HP Hg HX
    have HQN : Aside0 (w.heap.size < q6) := ⟨hq6⟩
    clear hq6 HQ1 HB1 HL1
    have hn0 : (0 : Int) ≤ ((pt k).length : Int) := by omega
    obtain ⟨c, hcc⟩ : ∃ c, [kd, a, s, al, v] = c := ⟨_, rfl⟩
    rw [hcc] at HC L3
    have hk0 : c.getD 0 0 = kd := by rw [← hcc]; rfl
    have hc5 : c.length = 5 := by rw [← hcc]; rfl
    have hpl : plainC c [] = [kd, 0, 0, 0, 0] := by rw [← hk0]; rfl
    rw [← hpl] at L2
    have L6 := Aside0.mk (And.intro hcc hc5)
    clear hk0 hc5 hpl hcc
    go_loopg [31, 5] (pt k).length (fun kq v31 v5 w' => ∃ (i : Int), v31 = .int .i64 i ∧ 0 ≤ i ∧ i + (kq : Int) = ((pt k).length : Int) ∧ Aside0 (Ws w' w.heap.size v5 (wd k :: wordsC c ((pt k).take i.toNat))) ∧ Aside0 (CallAt w' w.heap.size c) ∧ Aside0 (CallAt w' q6 (plainC c ((pt k).take i.toNat))) ∧ Aside0 (PtsAt w' A (pt k)) ∧ Aside0 (Below w.heap.size w w'))
    case atStart => exact ⟨0, rfl, Int.le_refl _, by omega, L1, L3, L2, L4, L5⟩
    case round =>
      obtain ⟨i, rfl, hi0, hi, HW, HA, HQ, HP, HB⟩ := hrel
      clear L1 L2 L3 L4 L5
      cases gk with
      | zero =>
        have hlt : decide (i < ((pt k).length : Int)) = false := decide_eq_false (by omega)
        have et : (pt k).take i.toNat = pt k := List.take_of_length_le (by omega)
        rw [et] at HW HQ
        obtain ⟨y0, y1, y2, y3, y4, hy⟩ := list5 _ (plainC_len c (pt k))
        have HQ2 := HQ.out
        rw [hy] at HQ2
        have HA2 := HA.out
        rw [← L6.out.1] at HA2
        obtain ⟨q0, q1, q2, q3, q4⟩ := HQ2.five
        obtain ⟨a0, a1, a2, a3, a4⟩ := HA2.five
        have HY := Aside0.mk hy
        clear hy HQ2 HA2
        go_wp2_with (go_at_call 28; go_loud (refine (join_calls 32 u5 (wd k :: wordsC c (pt k)) _ _ HW.out (by simp) (by have h2 := pt_len k; have h3 : (wordsC c (pt k)).length = (pt k).length := List.length_map _; rw [List.length_cons, h3]; omega) (Nat.le_trans (words_len c k HC.out) (by decide))).mono ?_; rintro e w2 ⟨rfl, hB2⟩))
        all_goals
          go_ret2
          have hk0 : c.getD 0 0 = kd := by rw [← L6.out.1]; rfl
          rw [L6.out.1]
          first
            | refine ⟨?_, HB.out⟩
              rw [callT_ne c k (by rw [hk0]; exact HK.out) (by rw [hk0]; exact HZ.out.1) (by rw [hk0]; exact HZ.out.2) (fun e => by
                have e2 := HY.out.symm.trans (e.trans L6.out.1.symm)
                simp only [List.cons.injEq, and_true] at e2
                obtain ⟨e0, e1, e2, e3, e4⟩ := e2
                contradiction)]
              rfl
            | refine ⟨?_, bthen HB.out hB2⟩
              rw [callT_eq c k (by rw [hk0]; exact HK.out) (by rw [hk0]; exact HZ.out.1) (by rw [hk0]; exact HZ.out.2) (by rw [HY.out, ← L6.out.1]; simp [*])]
              rfl
      | succ gk =>
        have hlt : decide (i < ((pt k).length : Int)) = true := decide_eq_true (by omega)
        have hin : i.toNat < (pt k).length := by omega
        obtain ⟨b, rfl, hb⟩ := HP.out (by intro e; rw [e] at hin; simp at hin)
        obtain ⟨p, hp⟩ : ∃ p, (pt k)[i.toNat] = p := ⟨_, rfl⟩
        have hp4 : p < 4 := by rw [← hp]; exact pt_lt k _ (List.getElem_mem _)
        have cb : wr.cell? ⟨b, i.toNat, none⟩ = some (.int .i64 (p : Int)) := by rw [blk_cell hb]; simp [hin, hp]
        obtain ⟨x, hx⟩ : ∃ x, c.getD (p + 1) 0 = x := ⟨_, rfl⟩
        have hxI : In64 x := by rw [← hx]; exact getD_in c HC.out _
        have ca := HA.out.cell (p + 1) (by rw [L6.out.2]; omega)
        rw [hx] at ca
        have cq := HQ.out.cell (p + 1) (by rw [plainC_len]; omega)
        have cf := HQ.out.frozen (p + 1)
        have ca2 := (HA.out.far (p + 1) (.int .i64 x) (Nat.ne_of_lt HQN.out)).cell (p + 1) (by rw [L6.out.2]; omega)
        rw [hx] at ca2
        have HPB := Aside0.mk hb
        have HXX := Aside0.mk (And.intro hx (And.intro hxI (And.intro hp hin)))
        clear hx hb hxI hp
        go_wp2_with (first
          | (go_at_call 27; refine (of_calls p hp4 _ _).mono ?_; rintro e w1 ⟨rfl, rfl⟩)
          | (go_at_call 10; refine (num_calls x _ HXX.out.2.1).mono ?_; rintro e w1 ⟨rfl, hB1⟩; have HB1 := Aside0.mk hB1; clear hB1)
          | ((with_reducible refine gate_builtin (b := .append) (xs := #[.tmp 42, .tmp 48]) rfl ?_); at_builtin; refine Kd.R_append Kd.string (w0 := w) w.heap.size rfl (.tmp 42) (.tmp 48) 25 9 (.string ⟨#[]⟩) 16 rfl Tryd.underlying25 info9 rfl (by decide) (by omega) u5 _ (bs (numL x)) [.string (bs (numL x))] (fun _ => True) (fun _ => False) rfl rfl ?aP (fun _ hk => hk.elim) ?aF (Kd.R_below (Kd.R_set HW.out HQ.out (by decide) (p + 1) (.int .i64 x)) HB1.out) ?aB ?aS ?aL ?_; (case aP => exact rfl); (case aF => exact (fun _ _ => trivial)); (case aB => exact bthen (HB.out.setCell (Nat.le_of_lt HQN.out) _) HB1.out); (case aS => exact (bthen (HB.out.setCell (Nat.le_of_lt HQN.out) _) HB1.out).size); (case aL => have h2 := pt_len k; have h3 := HXX.out.2.2.2; simp only [List.length_map, List.length_cons, wordsC, List.length_take]; omega); intro v9 w9 ho hb9 hg9 hat9; have HO9 := Aside0.mk ho; have HB9 := Aside0.mk hb9; have HG9 := Aside0.mk hg9; clear ho hb9 hg9 hat9))
        go_roundg gk
        case measure => omega
        case rel =>
          obtain ⟨hx, hxI, hp, hin2⟩ := HXX.out
          have e1 : (i + 1).toNat = i.toNat + 1 := by omega
          have ew := wordsC_next c (pt k) i.toNat hin
          have ep := plainC_next c (pt k) i.toNat hin
          rw [hp, hx] at ew ep
          have hR := Kd.R_below (Kd.R_set HW.out HQ.out (by decide) (p + 1) (.int .i64 x)) HB1.out
          have hA9 := CallAt.grown ((HA.out.far (p + 1) (.int .i64 x) (Nat.ne_of_lt HQN.out)).below HB1.out) hR HG9.out
          have hQ9 := CallAt.grown ((HQ.out.set (p + 1) x).below HB1.out) hR HG9.out
          have hP9 := PtsAt.grownW ((HP.out.set HQ.out (by decide) (p + 1) (.int .i64 x)).below HB1.out) hR HG9.out
          refine ⟨i + 1, by rw [w64 (by omega) (by have := pt_len k; omega)], by omega, by omega, ⟨?_⟩, ⟨hA9⟩, ⟨?_⟩, ⟨hP9⟩, HB9⟩
          · rw [e1, ew]
            have := HO9.out
            rw [show List.map bs (wd k :: wordsC c (List.take i.toNat (pt k))) ++ [bs (numL x)] = List.map bs (wd k :: (wordsC c (List.take i.toNat (pt k)) ++ [numL x])) by simp] at this
            exact this
          · rw [e1, ep]
            exact hQ9
theorem call_calls (kd a s al v : Int) (w : World) (hc : ∀ x ∈ [kd, a, s, al, v], In64 x) : Calls Tryd.prog 16 #[.agg #[.int .i64 kd, .int .i64 a, .int .i64 s, .int .i64 al, .int .i64 v]] w (CallPost w [kd, a, s, al, v]) := by
  by_cases h1 : kd < 1
  · exact call_low kd a s al v w h1
  · by_cases h2 : 12 < kd
    · exact call_high kd a s al v w h2
    · exact call_mid kd a s al v w (by omega) (by omega) hc
end Go.Proofs.YtkachkmmjlboeaaDoor.X

/- callcode.Parse: contract by hand. Conditions: none. -/
import Derived.Test.YtkachkmmjlboeaaDoorXForm
import Derived.BigQuiet
namespace Go.Proofs.YtkachkmmjlboeaaDoor.X
open Go.RowKit Go.Proofs.YtkachkmmjlboeaaDoor.YAll Go.Proofs.YtkachkmmjlboeaaDoorW.PrintWords Go.Proofs.YtkachkmmjlboeaaDoorW.PrintLast Go.Proofs.YtkachkmmjlboeaaDoorW.PrintMore
set_option linter.unusedVariables false
set_option linter.unusedSimpArgs false

def parseL (w0 : List UInt8) (rest : List (List UInt8)) : List Nat → List Int × Int
  | [] => (zero5, 4)
  | k :: ks => if wd k = w0 ∧ (readF ((k : Int) + 1) (pt k) rest).2 = true then ((readF ((k : Int) + 1) (pt k) rest).1, 0) else parseL w0 rest ks
def parseT (s : List UInt8) : List Int × Int := match flds s with
  | w0 :: rest => parseL w0 rest (List.range 12)
  | [] => (zero5, 4)
theorem parseL_next (w0 : List UInt8) (rest : List (List UInt8)) (k : Nat) (hk : k < 12) : parseL w0 rest ((List.range 12).drop k) = if wd k = w0 ∧ (readF ((k : Int) + 1) (pt k) rest).2 = true then ((readF ((k : Int) + 1) (pt k) rest).1, 0) else parseL w0 rest ((List.range 12).drop (k + 1)) := by
  have e : (List.range 12).drop k = k :: (List.range 12).drop (k + 1) := by
    rw [List.drop_eq_getElem_cons (by rw [List.length_range]; exact hk), List.getElem_range]
  rw [e]
  conv => lhs; unfold parseL
theorem rdF_len (ps : List Nat) : ∀ (ws : List (List UInt8)) (q : List Int), q.length = 5 → (rdF ps ws q).1.length = 5 := by
  induction ps with
  | nil => intro ws q h; exact h
  | cons p ps ih =>
    intro ws q h
    cases ws with
    | nil => rfl
    | cons t ws =>
      unfold rdF
      split
      · exact ih ws _ (by rw [List.length_set]; exact h)
      · rfl
theorem readF_len (kd : Int) (ps : List Nat) (ws : List (List UInt8)) : (readF kd ps ws).1.length = 5 := by
  unfold readF
  split
  · exact rdF_len ps ws _ rfl
  · rfl
theorem bs_inj {a b : List UInt8} (h : bs a = bs b) : a = b := by
  have := congrArg (fun x => x.data.toList) h
  simpa [bs] using this
/-- A row of texts, text by text. -/
theorem txt_cell {w : World} {b n : Nat} {ls : List (List UInt8)} (h : Txt w (some ⟨b, 0, none⟩) n ls) (j : Nat) (x : List UInt8) (hj : ls[j]? = some x) : w.cell? ⟨b, j, none⟩ = some (.string (bs x)) := by
  obtain ⟨h1, h2, h3⟩ := h
  have hp : 0 < n := by have := h1; rw [List.length_map] at this; have := (List.getElem?_eq_some_iff.1 hj).1; omega
  obtain ⟨a, ha, hc⟩ := h3 hp
  obtain rfl := Option.some.inj ha
  obtain ⟨cs, k1, k2, k3⟩ := hc j (bs x) (by rw [List.getElem?_map, hj]; rfl)
  have hk : cs = [.string (bs x)] := k2
  subst hk
  have := k3 0 _ rfl
  rw [Addr.add_lit, show (0 : Nat) + (j * Kd.string.sz + 0) = j by rw [show Kd.string.sz = 1 from rfl]; omega] at this
  exact this
theorem txt_tail {w : World} {b n : Nat} {w0 : List UInt8} {rest : List (List UInt8)} (h : Txt w (some ⟨b, 0, none⟩) n (w0 :: rest)) (hb : b < w.heap.size) (A : Option Addr) (hA : rest ≠ [] → A = some ⟨b, 1, none⟩) : TxtAt w A rest := fun hn => ⟨b, 1, hA hn, hb, fun j x hj => by rw [Nat.add_comm]; exact txt_cell h (j + 1) x (by simpa using hj)⟩
theorem call_res {fn : Func} {p u : Tmp} (tmps : Array Value) (w : World) (g : Nat) (q : List Int) (h : fn.results = #[.cell p 32, .tmp u]) (hp : tmps.getD p undef = .pointer (some ⟨g, 0, none⟩)) (hq : CallAt w g q) (hl : q.length = 5) : (results fn tmps).run Tryd.prog w = .ok (.tuple #[.agg (q.map (Value.int .i64)).toArray, tmps.getD u undef]) w := by
  have hi : (Tryd.prog.info? 32).map (·.size) = some 5 := by kernel_rfl
  obtain ⟨fl, hu⟩ : ∃ fl, Tryd.prog.underlying 32 = some (.struct fl) := ⟨_, Tryd.underlying32⟩
  exact results_list (rs := [.cell p 32, .tmp u]) h (by simp) (.cell g _ _ (0, 0) _ hp hq hu rfl (by rw [hi]; simp [hl]) (.tmp .nil))
set_option maxRecDepth 100000 in
set_option maxHeartbeats 2000000 in
theorem parse_calls (l : List UInt8) (w : World) (hm : Mx w) (hl : l.length ≤ 2000000) : Calls Tryd.prog 18 #[.string (bs l)] w fun e w' => e = .returned (.tuple #[.agg ((parseT l).1.map (Value.int .i64)).toArray, .int .i64 (parseT l).2]) ∧ Below w.heap.size w w' := by
  obtain ⟨w0, rest, hf⟩ := flds_cons l
  have HPT : Aside0 (parseL w0 rest (List.range 12) = parseT l) := ⟨by unfold parseT; rw [hf]⟩
  have HRL : Aside0 (rest.length ≤ 2000000) := ⟨by have h1 := flds_len l; rw [hf] at h1; have h2 := List.count_le_length (a := (32 : UInt8)) (l := l); rw [List.length_cons] at h1; omega⟩
  have HM := Aside0.mk hm
  have HL := Aside0.mk hl
  clear hm hl
  go_enter Tryd.func18, Tryd.ntmps18
  have HM1 : Aside0 (Mx (w.alloc (Obj.cells #[.int .i64 0, .int .i64 0, .int .i64 0, .int .i64 0, .int .i64 0] 32))) := ⟨HM.out.below (ballo (Below.refl _ _) _)⟩
  have Q2 : Aside0 (CallAt (w.alloc (Obj.cells #[.int .i64 0, .int .i64 0, .int .i64 0, .int .i64 0, .int .i64 0] 32)) w.heap.size zero5) := ⟨blk_new w _⟩
  have B2 : Aside0 (Below w.heap.size w (w.alloc (Obj.cells #[.int .i64 0, .int .i64 0, .int .i64 0, .int .i64 0, .int .i64 0] 32))) := ⟨ballo (Below.refl _ _) _⟩
  go_wp2_with (first
    | (go_at_call 12; go_loud (refine (fields_calls l _ HM1.out HL.out).mono ?_; rintro e w1 ⟨b, rfl, hbl, hT, hB1⟩; rw [hf] at hT ⊢; have HB1 := Aside0.mk hB1; have HT1 := Aside0.mk (And.intro hbl hT); clear hB1 hbl hT))
    | (go_at_call 26; refine (forms_calls _).mono ?_; rintro e w2 ⟨vs, rfl, hF, hB2⟩; have HB2 := Aside0.mk hB2; have HF := Aside0.mk hF; clear hB2 hF))
  have QX : Aside0 (CallAt w2 w.heap.size zero5) := ⟨(Q2.out.below HB1.out).below HB2.out⟩
  have BX : Aside0 (Below w.heap.size w w2) := ⟨bthen (bthen B2.out HB1.out) HB2.out⟩
  have TX : Aside0 (b < w2.heap.size ∧ Txt w2 (some ⟨b, 0, none⟩) (w0 :: rest).length (w0 :: rest)) := ⟨Nat.lt_of_lt_of_le HT1.out.1 HB2.out.size, Kd.C_below HT1.out.2 HB2.out⟩
  clear Q2 B2 HB1 HB2 HT1 HM1 hf
  have hlen : (0 : Int) < 12 := by decide
  go_loopg [12] 12 (fun kq v12 w' => ∃ (i : Int), v12 = .int .i64 i ∧ 0 ≤ i ∧ i + (kq : Int) = 12 ∧ Aside0 (parseL w0 rest ((List.range 12).drop i.toNat) = parseT l) ∧ Aside0 (Below w2.heap.size w2 w'))
  case atStart => exact ⟨0, rfl, Int.le_refl _, by omega, HPT, ⟨Below.refl _ _⟩⟩
  case round =>
    obtain ⟨i, rfl, hi0, hi, HP, HB⟩ := hrel
    cases gk with
    | zero =>
      have hlt : decide (i < 12) = false := decide_eq_false (by omega)
      obtain ⟨z0, z1, z2, z3, z4⟩ := CallAt.five (QX.out.below HB.out)
      have zf := (QX.out.below HB.out).frozen
      go_wp2_with fail
      (try simp only [Exit.inBlock, Exit.then])
      refine bodyPost_ret (call_res (p := 2) (u := 3) _ _ w.heap.size zero5 rfl rfl ((QX.out.below HB.out).set5 rfl 0 0 0 0 0) rfl) rfl ?_
      have hp := HP.out
      rw [show (List.range 12).drop i.toNat = [] from List.drop_eq_nil_of_le (by rw [List.length_range]; omega)] at hp
      rw [← hp]
      exact ⟨rfl, below5 (bthen BX.out HB.out) (Nat.le_refl _) _ _ _ _ _⟩
    | succ gk =>
      have hlt : decide (i < 12) = true := decide_eq_true (by omega)
      obtain ⟨k, hk⟩ : ∃ k : Nat, (k : Int) = i := ⟨i.toNat, by omega⟩
      have hk12 : k < 12 := by omega
      obtain ⟨A, hPA, hix⟩ := index_forms HF.out k hk12
      rw [hk] at hix
      have HN := Aside0.mk (parseL_next w0 rest k hk12)
      rw [show i.toNat = k by omega] at HP
      rw [HP.out, hk] at HN
      obtain ⟨t0, ht0⟩ : ∃ t0, wd k = t0 := ⟨_, rfl⟩
      rw [ht0] at HN hix
      clear ht0
      have HK := Aside0.mk (And.intro hk hk12)
      have HPA := Aside0.mk hPA
      clear hk hk12 hPA
      have G4 := blk_new wr (Obj.cells #[.string (bs t0), .slice A (pt k).length (pt k).length] 59)
      have B4 := ballo HB.out (Obj.cells #[.string (bs t0), .slice A (pt k).length (pt k).length] 59)
      obtain ⟨g0, g1, gf⟩ := blk2 G4
      have tb := pw_cell_below B4 (txt_cell TX.out.2 0 w0 rfl)
      have HG4 := Aside0.mk (And.intro G4 B4)
      clear G4 B4
      have hn0 : (0 : Int) < ((w0 :: rest).length : Int) := by rw [List.length_cons]; omega
      have hn1 : 0 < (w0 :: rest).length := by rw [List.length_cons]; omega
      by_cases hw : t0 = w0
      · subst hw
        go_upto_region 5 with fail
        go_quiet (fail)
        go_upto_region 6 with fail
        have G5 := blk_drewN HG4.out.1 nq
        have B5 := pw_below_drewN HG4.out.2 nq
        generalize (wr.alloc (Obj.cells #[.string (bs t0), .slice A (pt k).length (pt k).length] 59)).drewN nq = w5 at *
        generalize wr.heap.size = g4 at *
        have HG5 := Aside0.mk G5
        have HB5 := Aside0.mk B5
        clear G5 B5 HG4 g0 g1 gf tb hix
        have e1 : IntKind.i64.wrap (i + 1) = i + 1 := IntWalk.i64_in _ (by omega)
        obtain ⟨r, hr⟩ : ∃ r, readF (i + 1) (pt k) rest = r := ⟨_, rfl⟩
        have hr5 : r.1.length = 5 := by rw [← hr]; exact readF_len _ _ _
        go_cut [7, 8] (fun s7 s8 wx => ∃ (g : Nat), s7 = .pointer (some ⟨g, 0, none⟩) ∧ s8 = .bool r.2 ∧ Aside0 (CallAt wx g r.1) ∧ Aside0 (w5.heap.size ≤ g) ∧ Aside0 (Below w5.heap.size w5 wx))
        case first =>
          have KS : Aside0 (∀ w', Below w5.heap.size w5 w' → w'.cell? ⟨g4, 0, none⟩ = some (.string (bs t0)) ∧ w'.cell? ⟨g4, 1, none⟩ = some (.slice A (pt k).length (pt k).length)) := ⟨fun w' hb => ⟨pw_cell_below hb (blk2 HG5.out).1, pw_cell_below hb (blk2 HG5.out).2.1⟩⟩
          have HBW := Aside0.mk (below_drew (Below.refl w5.heap.size w5))
          have HBN := Aside0.mk (below_drew (ballo (Below.refl w5.heap.size w5) (Obj.cells #[.int .i64 0, .int .i64 0, .int .i64 0, .int .i64 0, .int .i64 0] 32)))
          have HQN := Aside0.mk (blk_drew (blk_new w5 (Obj.cells #[.int .i64 0, .int .i64 0, .int .i64 0, .int .i64 0, .int .i64 0] 32)))
          obtain ⟨y0, y1, y2, y3, y4, hy⟩ := list5 _ hr5
          cases rest with
          | nil =>
            simp only [List.length_nil, Nat.zero_add]
            go_region_held3 (fun w' => w'.cell? ⟨g4, 0, none⟩ = some (.string (bs t0)) ∧ w'.cell? ⟨g4, 1, none⟩ = some (.slice A (pt k).length (pt k).length))
              (first | (with_reducible exact KS.out _ HBW.out) | (with_reducible exact KS.out _ HBN.out) | (with_reducible exact KS.out _ hX) | (with_reducible exact KS.out _ (ballo hX _)) | (with_reducible exact KS.out _ (below5 hX (Nat.le_refl _) _ _ _ _ _)) | exact KS.out _ hX)
              (first
                | (go_at_call 32; go_loud (refine (form_calls (bs t0) A (pt k) (i + 1) _ ([]) _ _ (HPA.out.below (bthen HB5.out HBW.out)) (pt_lt k) (txt_tail (Kd.C_below TX.out.2 (bthen HB5.out HBW.out)) (Nat.lt_of_lt_of_le TX.out.1 (bthen HB5.out HBW.out).size) _ (fun h => (h rfl).elim)) (pt_len k) (Nat.le_trans HRL.out (by decide))).mono ?_; rintro e w7 ⟨rfl, hB7⟩; rw [hr]; have hX : Below w5.heap.size w5 w7 := bthen HBW.out hB7; skip))
                | (go_at_call 32; go_loud (refine (form_calls (bs t0) A (pt k) (i + 1) _ ([]) _ _ (HPA.out.below (bthen HB5.out HBN.out)) (pt_lt k) (txt_tail (Kd.C_below TX.out.2 (bthen HB5.out HBN.out)) (Nat.lt_of_lt_of_le TX.out.1 (bthen HB5.out HBN.out).size) _ (fun h => (h rfl).elim)) (pt_len k) (Nat.le_trans HRL.out (by decide))).mono ?_; rintro e w7 ⟨rfl, hB7⟩; rw [hr]; have hX : Below w5.heap.size w5 w7 := bthen HBN.out hB7; have qn2 : CallAt w7 w5.heap.size zero5 := blk_below HQN.out hB7; obtain ⟨z0, z1, z2, z3, z4⟩ := CallAt.five qn2; have zf := qn2.frozen)))
            all_goals
              go_wp2_with fail
              go_meet
              first
                | exact ⟨w7.heap.size, rfl, rfl, ⟨by rw [hy]; exact blk_new w7 _⟩, ⟨hX.size⟩, ⟨ballo hX _⟩⟩
                | exact ⟨w5.heap.size, rfl, rfl, ⟨by rw [hy]; exact qn2.set5 rfl y0 y1 y2 y3 y4⟩, ⟨Nat.le_refl _⟩, ⟨below5 hX (Nat.le_refl _) _ _ _ _ _⟩⟩
          | cons t1 ts =>
            simp only [List.length_cons]
            have s1 : (1 : Int) ≤ ((ts.length + 1 + 1 : Nat) : Int) := by omega
            have s2 : (1 : Int) ≤ (ts.length : Int) + 1 + 1 := by omega
            have s3 : ¬ (ts.length + 1 + 1 = 1) := by omega
            have s4 : (0 : Int) ≤ (ts.length : Int) + 1 := by omega
            go_region_held3 (fun w' => w'.cell? ⟨g4, 0, none⟩ = some (.string (bs t0)) ∧ w'.cell? ⟨g4, 1, none⟩ = some (.slice A (pt k).length (pt k).length))
              (first | (with_reducible exact KS.out _ HBW.out) | (with_reducible exact KS.out _ HBN.out) | (with_reducible exact KS.out _ hX) | (with_reducible exact KS.out _ (ballo hX _)) | (with_reducible exact KS.out _ (below5 hX (Nat.le_refl _) _ _ _ _ _)) | exact KS.out _ hX)
              (first
                | (go_at_call 32; go_loud (refine (form_calls (bs t0) A (pt k) (i + 1) _ (t1 :: ts) _ _ (HPA.out.below (bthen HB5.out HBW.out)) (pt_lt k) (txt_tail (Kd.C_below TX.out.2 (bthen HB5.out HBW.out)) (Nat.lt_of_lt_of_le TX.out.1 (bthen HB5.out HBW.out).size) _ (fun _ => rfl)) (pt_len k) (Nat.le_trans HRL.out (by decide))).mono ?_; rintro e w7 ⟨rfl, hB7⟩; rw [hr]; have hX : Below w5.heap.size w5 w7 := bthen HBW.out hB7; skip))
                | (go_at_call 32; go_loud (refine (form_calls (bs t0) A (pt k) (i + 1) _ (t1 :: ts) _ _ (HPA.out.below (bthen HB5.out HBN.out)) (pt_lt k) (txt_tail (Kd.C_below TX.out.2 (bthen HB5.out HBN.out)) (Nat.lt_of_lt_of_le TX.out.1 (bthen HB5.out HBN.out).size) _ (fun _ => rfl)) (pt_len k) (Nat.le_trans HRL.out (by decide))).mono ?_; rintro e w7 ⟨rfl, hB7⟩; rw [hr]; have hX : Below w5.heap.size w5 w7 := bthen HBN.out hB7; have qn2 : CallAt w7 w5.heap.size zero5 := blk_below HQN.out hB7; obtain ⟨z0, z1, z2, z3, z4⟩ := CallAt.five qn2; have zf := qn2.frozen)))
            all_goals
              go_wp2_with fail
              go_meet
              first
                | exact ⟨w7.heap.size, rfl, rfl, ⟨by rw [hy]; exact blk_new w7 _⟩, ⟨hX.size⟩, ⟨ballo hX _⟩⟩
                | exact ⟨w5.heap.size, rfl, rfl, ⟨by rw [hy]; exact qn2.set5 rfl y0 y1 y2 y3 y4⟩, ⟨Nat.le_refl _⟩, ⟨below5 hX (Nat.le_refl _) _ _ _ _ _⟩⟩
        case rest =>
          obtain ⟨wx, rfl⟩ : ∃ wx : World, wx = wc := ⟨_, rfl⟩
          obtain ⟨g, rfl, rfl, HG, Hg, HX⟩ := hcut
          have hn := HN.out
          rw [hr] at hn
          have HN2 := Aside0.mk hn
          have HRR := Aside0.mk hr
          clear hn HN hr
          cases hok : r.2 with
          | true =>
            obtain ⟨y0, y1, y2, y3, y4, hy⟩ := list5 _ hr5
            have HG2 := HG.out
            rw [hy] at HG2
            obtain ⟨a0, a1, a2, a3, a4⟩ := HG2.five
            have q2 := QX.out.below (bthen HB5.out HX.out)
            obtain ⟨z0, z1, z2, z3, z4⟩ := CallAt.five q2
            have zf := q2.frozen
            have HQ2 := Aside0.mk q2
            have HY := Aside0.mk hy
            clear q2 hy HG2
            go_wp2_with fail
            (try simp only [Exit.inBlock, Exit.then])
            refine bodyPost_ret (call_res (p := 2) (u := 3) _ _ w.heap.size [y0, y1, y2, y3, y4] rfl rfl (HQ2.out.set5 rfl y0 y1 y2 y3 y4) rfl) rfl ?_
            have hn := HN2.out
            rw [if_pos ⟨by trivial, hok⟩, HY.out] at hn
            rw [hn]
            exact ⟨rfl, below5 (bthen BX.out (bthen HB5.out HX.out)) (Nat.le_refl _) _ _ _ _ _⟩
          | false =>
            go_wp2_with fail
            go_roundg gk
            case measure => omega
            case rel =>
              have hk := HK.out
              refine ⟨i + 1, rfl, by omega, by omega, ⟨?_⟩, ⟨bthen HB5.out HX.out⟩⟩
              rw [show (i + 1).toNat = k + 1 by omega, HN2.out, if_neg (fun h => by rw [hok] at h; exact absurd h.2 (by decide))]
      · have n2 : ((bs t0).toList == (bs w0).toList) = false := by rw [bs_list, bs_list]; simp [hw]
        go_upto_region 5 with fail
        go_quiet (fail)
        go_wp2_with fail
        go_roundg gk
        case measure => omega
        case rel =>
          have hk := HK.out
          refine ⟨i + 1, rfl, by omega, by omega, ⟨?_⟩, ⟨pw_below_drewN HG4.out.2 _⟩⟩
          rw [show (i + 1).toNat = k + 1 by omega, HN.out, if_neg (fun h => hw h.1)]
end Go.Proofs.YtkachkmmjlboeaaDoor.X

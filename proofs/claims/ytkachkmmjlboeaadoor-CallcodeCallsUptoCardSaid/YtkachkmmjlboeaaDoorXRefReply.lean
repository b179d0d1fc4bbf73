/- assartref30.Reply: contract by hand. Conditions: none. -/
import Derived.Test.YtkachkmmjlboeaaDoorXLives
namespace Go.Proofs.YtkachkmmjlboeaaDoor.X
open Go.RowKit Go.Proofs.YtkachkmmjlboeaaDoor.YAll Go.Proofs.YtkachkmmjlboeaaDoorW.PrintWords Go.Proofs.YtkachkmmjlboeaaDoorW.PrintLast Go.Proofs.YtkachkmmjlboeaaDoorW.PrintMore
set_option linter.unusedVariables false
set_option linter.unusedSimpArgs false

def pcL (x : UInt8 × Int) : List UInt8 := if x.2 = 0 then [] else 32 :: x.1 :: numL x.2
theorem jns_cons (sp : UInt8) (w : List UInt8) : ∀ r : List (List UInt8), jns sp (w :: r) = w ++ r.flatMap (sp :: ·)
  | [] => by simp [jns]
  | v :: r => by
    have := jns_cons sp v r
    unfold jns
    rw [this]
    simp
theorem jns_snoc (sp : UInt8) (l : List (List UInt8)) (x : List UInt8) (h : l ≠ []) : jns sp (l ++ [x]) = jns sp l ++ sp :: x := by
  cases l with
  | nil => exact absurd rfl h
  | cons y l => rw [List.cons_append, jns_cons, jns_cons, List.flatMap_append]; simp
theorem pcL_sgn (x : UInt8 × Int) : (sgn x).flatMap (32 :: ·) = pcL x := by
  unfold sgn pcL
  split <;> simp
theorem pcL_len (x : UInt8 × Int) (h : In64 x.2) : (pcL x).length ≤ 22 := by
  unfold pcL
  split
  · simp
  · have := numL_len x.2 h
    simp only [List.length_cons]
    omega
theorem replyT_no (a s v : Int) (ts : List Int) (h : ts = [0, 0, 0, 0, 0, 0, 0]) : replyT 0 a s v ts = okL ++ pcL (97, a) ++ pcL (115, s) ++ pcL (118, v) := by
  unfold replyT statW
  rw [if_neg (by decide), if_pos h, List.append_nil]
  show jns 32 _ = _
  rw [jns_cons]
  simp [sgns, List.flatMap_append, pcL_sgn]
theorem replyT_yes (a s v : Int) (ts : List Int) (h : ts ≠ [0, 0, 0, 0, 0, 0, 0]) : replyT 0 a s v ts = okL ++ pcL (97, a) ++ pcL (115, s) ++ pcL (118, v) ++ [32, 116] ++ jns 44 (ts.map numL) := by
  unfold replyT statW
  rw [if_neg (by decide), if_neg h]
  show jns 32 _ = _
  rw [jns_cons]
  simp [sgns, List.flatMap_append, pcL_sgn]
theorem refreply_err (er a s v t0 t1 t2 t3 t4 t5 t6 : Int) (w : World) (he : er ≠ 0) (hI : In64 er) :
    Calls Tryd.prog 21 #[.agg #[.int .i64 er, .int .i64 a, .int .i64 s, .int .i64 v, .int .i64 t0, .int .i64 t1, .int .i64 t2, .int .i64 t3, .int .i64 t4, .int .i64 t5, .int .i64 t6]] w fun e w' => e = .returned (.string (bs (replyT er a s v [t0, t1, t2, t3, t4, t5, t6]))) ∧ Below w.heap.size w w' := by
  have b0 : (er == 0) = false := by simpa using he
  have b1 : (er != 0) = true := by simpa using he
  have hl : ¬ (9223372036854775807 < (6 : Int) + ((numL er).length : Int)) := by have := numL_len er hI; omega
  have hsz := bs_size (numL er)
  have HI := Aside0.mk (And.intro hI he)
  clear hI
  go_enter Tryd.func21, Tryd.ntmps21
  go_wp2_with (go_at_call 11; go_loud (refine (refnum_calls er _ HI.out.1).mono ?_; rintro e w1 ⟨rfl, hB1⟩))
  go_ret
  refine ⟨?_, bthen (ballo (Below.refl _ _) _) hB1⟩
  have e : replyT er a s v [t0, t1, t2, t3, t4, t5, t6] = errL ++ numL er := if_pos HI.out.2
  rw [e, ← bs_append]
  rfl
set_option maxRecDepth 100000 in
set_option maxHeartbeats 20000000 in
theorem refreply_main (er a s v t0 t1 t2 t3 t4 t5 t6 : Int) (w : World) (he : er = 0) (hI : ∀ x ∈ [a, s, v, t0, t1, t2, t3, t4, t5, t6], In64 x) :
    Calls Tryd.prog 21 #[.agg #[.int .i64 er, .int .i64 a, .int .i64 s, .int .i64 v, .int .i64 t0, .int .i64 t1, .int .i64 t2, .int .i64 t3, .int .i64 t4, .int .i64 t5, .int .i64 t6]] w fun e w' => e = .returned (.string (bs (replyT er a s v [t0, t1, t2, t3, t4, t5, t6]))) ∧ Below w.heap.size w w' := by
  subst he
  have HI := Aside0.mk hI
  clear hI
  go_enter Tryd.func21, Tryd.ntmps21
  have BX0 : CellsAt (w.alloc (Obj.cells #[.int .i64 0, .int .i64 a, .int .i64 s, .int .i64 v, .int .i64 t0, .int .i64 t1, .int .i64 t2, .int .i64 t3, .int .i64 t4, .int .i64 t5, .int .i64 t6] 46)) w.heap.size [0, a, s, v, t0, t1, t2, t3, t4, t5, t6] 46 := blk_new w _
  have BB0 := ballo (Below.refl w.heap.size w) (Obj.cells #[.int .i64 0, .int .i64 a, .int .i64 s, .int .i64 v, .int .i64 t0, .int .i64 t1, .int .i64 t2, .int .i64 t3, .int .i64 t4, .int .i64 t5, .int .i64 t6] 46)
  go_upto_region 4 with fail
  generalize w.alloc (Obj.cells #[.int .i64 0, .int .i64 a, .int .i64 s, .int .i64 v, .int .i64 t0, .int .i64 t1, .int .i64 t2, .int .i64 t3, .int .i64 t4, .int .i64 t5, .int .i64 t6] 46) = w1 at *
  have BX := Aside0.mk BX0
  have BB := Aside0.mk BB0
  clear BX0 BB0
  have cc0 : _ = some (Value.int .i64 a) := blk_cell (BX.out.below (Below.refl w1.heap.size w1)) 1
  go_cut [16] (fun s16 wx => s16 = .bool (a != 0) ∧ w1 = wx)
  case first =>
    go_wp2_with fail
    go_meet
    exact ⟨rfl, rfl⟩
  case rest =>
  go_upto_region 6 with fail
  obtain ⟨rfl, rfl⟩ := hcut
  go_cut [3] (fun s3 wx => ∃ S : List UInt8, s3 = .string (bs S) ∧ Aside0 (S = okL ++ pcL (97, a)) ∧ Aside0 (Below w1.heap.size w1 wx))
  case first =>
    by_cases h0 : a = 0
    · have HE := Aside0.mk h0
      have b0 : (a == 0) = true := by simpa using h0
      have b1 : (a != 0) = false := by simpa using h0
      clear h0
      go_wp2_with fail
      go_meet
      exact ⟨okL, rfl, ⟨by rw [show pcL (97, a) = [] from if_pos HE.out, List.append_nil]⟩, ⟨(Below.refl w1.heap.size w1)⟩⟩
    · have HE := Aside0.mk h0
      have b0 : (a == 0) = false := by simpa using h0
      have b1 : (a != 0) = true := by simpa using h0
      clear h0
      have hnl := numL_len a (HI.out a (by simp))
      have hsz := bs_size (numL a)
      skip
      have f1 : (9223372036854775807 < 2 + 2) = False := eq_false (by omega)
      have f2 : (9223372036854775807 < 2 + 2 + (numL a).length) = False := eq_false (by omega)
      go_wp2_with (go_at_call 11; refine (refnum_calls a _ (HI.out a (by simp))).mono ?_; rintro e w2 ⟨rfl, hB2⟩)
      go_meet
      exact ⟨okL ++ [32, 97] ++ numL a, by rw [← bs_append, ← bs_append]; rfl, ⟨by rw [show pcL (97, a) = 32 :: 97 :: numL a from if_neg HE.out]; simp⟩, ⟨bthen (Below.refl w1.heap.size w1) hB2⟩⟩
  case rest =>
  obtain ⟨x0, rfl⟩ : ∃ x : World, x = wc := ⟨_, rfl⟩
  obtain ⟨S0, rfl, HS0, HB0⟩ := hcut
  have HL0 : Aside0 (S0.length ≤ 24) := ⟨by rw [HS0.out, List.length_append]; have h1 := pcL_len (97, a) (HI.out a (by simp)); have h2 : okL.length = 2 := rfl; omega⟩
  go_upto_region 6 with fail
  have cc1 : _ = some (Value.int .i64 s) := blk_cell (BX.out.below HB0.out) 2
  go_cut [25] (fun s16 wx => s16 = .bool (s != 0) ∧ x0 = wx)
  case first =>
    go_wp2_with fail
    go_meet
    exact ⟨rfl, rfl⟩
  case rest =>
  go_upto_region 8 with fail
  obtain ⟨rfl, rfl⟩ := hcut
  go_cut [3] (fun s3 wx => ∃ S : List UInt8, s3 = .string (bs S) ∧ Aside0 (S = S0 ++ pcL (115, s)) ∧ Aside0 (Below w1.heap.size w1 wx))
  case first =>
    by_cases h0 : s = 0
    · have HE := Aside0.mk h0
      have b0 : (s == 0) = true := by simpa using h0
      have b1 : (s != 0) = false := by simpa using h0
      clear h0
      go_wp2_with fail
      go_meet
      exact ⟨S0, rfl, ⟨by rw [show pcL (115, s) = [] from if_pos HE.out, List.append_nil]⟩, ⟨HB0.out⟩⟩
    · have HE := Aside0.mk h0
      have b0 : (s == 0) = false := by simpa using h0
      have b1 : (s != 0) = true := by simpa using h0
      clear h0
      have hnl := numL_len s (HI.out s (by simp))
      have hsz := bs_size (numL s)
      have hs2 := bs_size S0; have hs3 := HL0.out
      have f1 : (9223372036854775807 < S0.length + 2) = False := eq_false (by omega)
      have f2 : (9223372036854775807 < S0.length + 2 + (numL s).length) = False := eq_false (by omega)
      go_wp2_with (go_at_call 11; refine (refnum_calls s _ (HI.out s (by simp))).mono ?_; rintro e w2 ⟨rfl, hB2⟩)
      go_meet
      exact ⟨S0 ++ [32, 115] ++ numL s, by rw [← bs_append, ← bs_append]; rfl, ⟨by rw [show pcL (115, s) = 32 :: 115 :: numL s from if_neg HE.out]; simp⟩, ⟨bthen HB0.out hB2⟩⟩
  case rest =>
  obtain ⟨x1, rfl⟩ : ∃ x : World, x = wc := ⟨_, rfl⟩
  obtain ⟨S1, rfl, HS1, HB1⟩ := hcut
  have HL1 : Aside0 (S1.length ≤ 46) := ⟨by rw [HS1.out, List.length_append]; have h1 := pcL_len (115, s) (HI.out s (by simp)); have h2 := HL0.out; omega⟩
  go_upto_region 8 with fail
  have cc2 : _ = some (Value.int .i64 v) := blk_cell (BX.out.below HB1.out) 3
  go_cut [34] (fun s16 wx => s16 = .bool (v != 0) ∧ x1 = wx)
  case first =>
    go_wp2_with fail
    go_meet
    exact ⟨rfl, rfl⟩
  case rest =>
  go_upto_region 10 with fail
  obtain ⟨rfl, rfl⟩ := hcut
  go_cut [3] (fun s3 wx => ∃ S : List UInt8, s3 = .string (bs S) ∧ Aside0 (S = S1 ++ pcL (118, v)) ∧ Aside0 (Below w1.heap.size w1 wx))
  case first =>
    by_cases h0 : v = 0
    · have HE := Aside0.mk h0
      have b0 : (v == 0) = true := by simpa using h0
      have b1 : (v != 0) = false := by simpa using h0
      clear h0
      go_wp2_with fail
      go_meet
      exact ⟨S1, rfl, ⟨by rw [show pcL (118, v) = [] from if_pos HE.out, List.append_nil]⟩, ⟨HB1.out⟩⟩
    · have HE := Aside0.mk h0
      have b0 : (v == 0) = false := by simpa using h0
      have b1 : (v != 0) = true := by simpa using h0
      clear h0
      have hnl := numL_len v (HI.out v (by simp))
      have hsz := bs_size (numL v)
      have hs2 := bs_size S1; have hs3 := HL1.out
      have f1 : (9223372036854775807 < S1.length + 2) = False := eq_false (by omega)
      have f2 : (9223372036854775807 < S1.length + 2 + (numL v).length) = False := eq_false (by omega)
      go_wp2_with (go_at_call 11; refine (refnum_calls v _ (HI.out v (by simp))).mono ?_; rintro e w2 ⟨rfl, hB2⟩)
      go_meet
      exact ⟨S1 ++ [32, 118] ++ numL v, by rw [← bs_append, ← bs_append]; rfl, ⟨by rw [show pcL (118, v) = 32 :: 118 :: numL v from if_neg HE.out]; simp⟩, ⟨bthen HB1.out hB2⟩⟩
  case rest =>
  obtain ⟨x2, rfl⟩ : ∃ x : World, x = wc := ⟨_, rfl⟩
  obtain ⟨S2, rfl, HS2, HB2⟩ := hcut
  have HL2 : Aside0 (S2.length ≤ 68) := ⟨by rw [HS2.out, List.length_append]; have h1 := pcL_len (118, v) (HI.out v (by simp)); have h2 := HL1.out; omega⟩
  have HX2 := Aside0.mk (BX.out.below HB2.out)
  obtain ⟨h4, h5, h6, h7, h8, h9, h10⟩ : _ ∧ _ ∧ _ ∧ _ ∧ _ ∧ _ ∧ _ := ⟨blk_cell HX2.out 4, blk_cell HX2.out 5, blk_cell HX2.out 6, blk_cell HX2.out 7, blk_cell HX2.out 8, blk_cell HX2.out 9, blk_cell HX2.out 10⟩
  go_upto_region 11 with fail
  have G6 := blk_new x2 (Obj.cells #[.int .i64 t0, .int .i64 t1, .int .i64 t2, .int .i64 t3, .int .i64 t4, .int .i64 t5, .int .i64 t6] 44)
  have B6 := ballo HB2.out (Obj.cells #[.int .i64 t0, .int .i64 t1, .int .i64 t2, .int .i64 t3, .int .i64 t4, .int .i64 t5, .int .i64 t6] 44)
  generalize x2.alloc (Obj.cells #[.int .i64 t0, .int .i64 t1, .int .i64 t2, .int .i64 t3, .int .i64 t4, .int .i64 t5, .int .i64 t6] 44) = w6 at *
  generalize x2.heap.size = q6 at *
  have HG6 := Aside0.mk G6
  have HB6 := Aside0.mk B6
  obtain ⟨z0, z1, z2, z3, z4, z5, z6⟩ : _ ∧ _ ∧ _ ∧ _ ∧ _ ∧ _ ∧ _ := ⟨blk_cell G6 0, blk_cell G6 1, blk_cell G6 2, blk_cell G6 3, blk_cell G6 4, blk_cell G6 5, blk_cell G6 6⟩
  clear G6 B6 h4 h5 h6 h7 h8 h9 h10 cc0 cc1 cc2
  obtain ⟨st, hst⟩ : ∃ st, decide ([t0, t1, t2, t3, t4, t5, t6] = [0, 0, 0, 0, 0, 0, 0]) = st := ⟨_, rfl⟩
  have HST := Aside0.mk hst
  clear hst
  go_cut [45] (fun s45 wy => s45 = .bool (!st) ∧ wy = w6)
  case first =>
    by_cases c0 : t0 = 0
    · have d0 := eq_true c0
      clear c0
      by_cases c1 : t1 = 0
      · have d1 := eq_true c1
        clear c1
        by_cases c2 : t2 = 0
        · have d2 := eq_true c2
          clear c2
          by_cases c3 : t3 = 0
          · have d3 := eq_true c3
            clear c3
            by_cases c4 : t4 = 0
            · have d4 := eq_true c4
              clear c4
              by_cases c5 : t5 = 0
              · have d5 := eq_true c5
                clear c5
                by_cases c6 : t6 = 0
                · have d6 := eq_true c6
                  clear c6
                  go_wp2_with fail
                  go_meet
                  exact ⟨by rw [← HST.out]; simp [d0, d1, d2, d3, d4, d5, d6], rfl⟩
                · have d6 := eq_false c6
                  clear c6
                  go_wp2_with fail
                  go_meet
                  exact ⟨by rw [← HST.out]; simp [d0, d1, d2, d3, d4, d5, d6], rfl⟩
              · have d5 := eq_false c5
                clear c5
                go_wp2_with fail
                go_meet
                exact ⟨by rw [← HST.out]; simp [d0, d1, d2, d3, d4, d5], rfl⟩
            · have d4 := eq_false c4
              clear c4
              go_wp2_with fail
              go_meet
              exact ⟨by rw [← HST.out]; simp [d0, d1, d2, d3, d4], rfl⟩
          · have d3 := eq_false c3
            clear c3
            go_wp2_with fail
            go_meet
            exact ⟨by rw [← HST.out]; simp [d0, d1, d2, d3], rfl⟩
        · have d2 := eq_false c2
          clear c2
          go_wp2_with fail
          go_meet
          exact ⟨by rw [← HST.out]; simp [d0, d1, d2], rfl⟩
      · have d1 := eq_false c1
        clear c1
        go_wp2_with fail
        go_meet
        exact ⟨by rw [← HST.out]; simp [d0, d1], rfl⟩
    · have d0 := eq_false c0
      clear c0
      go_wp2_with fail
      go_meet
      exact ⟨by rw [← HST.out]; simp [d0], rfl⟩
  case rest =>
  obtain ⟨rfl, rfl⟩ := hcut
  have HSS : Aside0 (S2 = okL ++ pcL (97, a) ++ pcL (115, s) ++ pcL (118, v)) := ⟨by rw [HS2.out, HS1.out, HS0.out]⟩
  cases st with
  | true =>
    go_wp2_with fail
    go_ret
    refine ⟨?_, bthen BB.out HB6.out⟩
    rw [replyT_no a s v _ (of_decide_eq_true HST.out), ← HSS.out]
    rfl
  | false =>
    have hs2 := bs_size S2
    have hl2 := HL2.out
    go_upto_region 13 with fail
    have G7 := blk_new wc (Obj.cells #[.int .i64 t0, .int .i64 t1, .int .i64 t2, .int .i64 t3, .int .i64 t4, .int .i64 t5, .int .i64 t6] 3)
    have B7 := ballo HB6.out (Obj.cells #[.int .i64 t0, .int .i64 t1, .int .i64 t2, .int .i64 t3, .int .i64 t4, .int .i64 t5, .int .i64 t6] 3)
    generalize wc.alloc (Obj.cells #[.int .i64 t0, .int .i64 t1, .int .i64 t2, .int .i64 t3, .int .i64 t4, .int .i64 t5, .int .i64 t6] 3) = w7 at *
    generalize wc.heap.size = q7 at *
    have HG7 := Aside0.mk G7
    have HB7 := Aside0.mk B7
    clear G7 B7 HG6 HB6 z0 z1 z2 z3 z4 z5 z6
    obtain ⟨ts, hts⟩ : ∃ ts, [t0, t1, t2, t3, t4, t5, t6] = ts := ⟨_, rfl⟩
    have htl : ts.length = 7 := by rw [← hts]; rfl
    have htI : ∀ x ∈ ts, In64 x := fun x hx => HI.out x (by rw [← hts] at hx; simp at hx ⊢; rcases hx with h | h | h | h | h | h | h <;> simp [h])
    have htc : ∀ (i : Nat) (x : Int), ts[i]? = some x → w7.cell? ⟨q7, i, none⟩ = some (.int .i64 x) := fun i x hx => by
      rw [blk_cell HG7.out]
      have e : (#[Value.int .i64 t0, .int .i64 t1, .int .i64 t2, .int .i64 t3, .int .i64 t4, .int .i64 t5, .int .i64 t6] : Array Value) = (ts.map (Value.int .i64)).toArray := by rw [← hts]; rfl
      rw [e]
      simp [hx]
    have ht0 : ts[0]? = some t0 := by rw [← hts]; rfl
    have c70 := htc 0 t0 ht0
    have hnl := numL_len t0 (HI.out t0 (by simp))
    have hsz := bs_size (numL t0)
    have f1 : (9223372036854775807 < S2.length + 2) = False := eq_false (by omega)
    have f2 : (9223372036854775807 < S2.length + 2 + (numL t0).length) = False := eq_false (by omega)
    have HTS := Aside0.mk (And.intro hts (And.intro htl (And.intro htI (And.intro htc ht0))))
    clear hts htl htI htc ht0
    go_wp2_with (go_at_call 11; refine (refnum_calls t0 _ (HI.out t0 (by simp))).mono ?_; rintro e w8 ⟨rfl, hB8⟩; have HB8 := Aside0.mk hB8; clear hB8)
    have HT1 : Aside0 (jns 44 ((ts.take 1).map numL) = numL t0) := ⟨by rw [← HTS.out.1]; rfl⟩
    have h0 : (⟨#[32, 116]⟩ : ByteArray) = bs [32, 116] := rfl
    have h1 : bs S2 ++ (⟨#[32, 116]⟩ : ByteArray) ++ bs (numL t0) = bs ((S2 ++ [32, 116]) ++ jns 44 ((ts.take 1).map numL)) := by rw [HT1.out, h0, bs_append, bs_append]
    rw [h1]
    clear c70 f1 f2 hnl hsz hs2 hl2 h0 h1
    obtain ⟨U, hU⟩ : ∃ U, S2 ++ [32, 116] = U := ⟨_, rfl⟩
    rw [hU]
    have HUL : Aside0 (U.length ≤ 70) := ⟨by rw [← hU, List.length_append]; have := HL2.out; show _ + 2 ≤ 70; omega⟩
    have HU := Aside0.mk hU
    clear hU
    obtain ⟨B0, hB0⟩ : ∃ B0, bs (U ++ jns 44 ((ts.take 1).map numL)) = B0 := ⟨_, rfl⟩
    rw [hB0]
    have HB0B := Aside0.mk hB0
    clear hB0
    go_loopg [6, 3] 6 (fun kq v6 v3 w' => ∃ (i : Int), v6 = .int .i64 i ∧ 1 ≤ i ∧ i + (kq : Int) = 7 ∧ v3 = .string (bs (U ++ jns 44 ((ts.take i.toNat).map numL))) ∧ Aside0 (Below w7.heap.size w7 w'))
    case atStart => exact ⟨1, rfl, Int.le_refl _, by omega, by rw [← HB0B.out]; rfl, HB8⟩
    case round =>
      obtain ⟨i, rfl, hi0, hi, rfl, HB⟩ := hrel
      cases gk with
      | zero =>
        have hlt : decide (i < 7) = false := decide_eq_false (by omega)
        have et : ts.take i.toNat = ts := List.take_of_length_le (by rw [HTS.out.2.1]; omega)
        rw [et]
        go_wp2_with fail
        go_ret
        refine ⟨?_, bthen BB.out (bthen HB7.out HB.out)⟩
        rw [replyT_yes a s v _ (of_decide_eq_false HST.out), ← HSS.out, HU.out, HTS.out.1]
        rfl
      | succ gk =>
        have hlt : decide (i < 7) = true := decide_eq_true (by omega)
        have hin : i.toNat < ts.length := by rw [HTS.out.2.1]; omega
        obtain ⟨x, hx⟩ : ∃ x, ts[i.toNat] = x := ⟨_, rfl⟩
        have hxI := HTS.out.2.2.1 x (by rw [← hx]; exact List.getElem_mem _)
        have cx := pw_cell_below HB.out (HTS.out.2.2.2.1 i.toNat x (by rw [List.getElem?_eq_getElem hin, hx]))
        have HXX := Aside0.mk (And.intro hx hxI)
        obtain ⟨T, hT⟩ : ∃ T, U ++ jns 44 ((ts.take i.toNat).map numL) = T := ⟨_, rfl⟩
        have hTl : T.length ≤ 300 := by
          have h := jns_len 44 20 ((ts.take i.toNat).map numL) (fun y hy => by obtain ⟨n, hn, rfl⟩ := List.mem_map.1 hy; exact numL_len n (HTS.out.2.2.1 n (List.mem_of_mem_take hn)))
          rw [List.length_map, List.length_take] at h
          have h2 := HUL.out
          rw [← hT, List.length_append]
          have h3 := HTS.out.2.1
          omega
        have hsT := bs_size T
        have hnl := numL_len x hxI
        have hsz := bs_size (numL x)
        have f1 : (9223372036854775807 < T.length + 1) = False := eq_false (by omega)
        have f2 : (9223372036854775807 < T.length + 1 + (numL x).length) = False := eq_false (by omega)
        rw [hT]
        have HT := Aside0.mk hT
        clear hx hT hxI
        go_wp2_with (go_at_call 11; refine (refnum_calls x _ HXX.out.2).mono ?_; rintro e w9 ⟨rfl, hB9⟩; have HB9 := Aside0.mk (bthen HB.out hB9); clear hB9)
        go_roundg gk
        case measure => omega
        case rel =>
          refine ⟨i + 1, rfl, by omega, by omega, ?_, HB9⟩
          rw [show (i + 1).toNat = i.toNat + 1 by omega, take_next ts i.toNat hin, HXX.out.1, List.map_append, List.map_singleton, jns_snoc 44 _ _ (by intro e; have h9 := congrArg List.length e; rw [List.length_map, List.length_take, HTS.out.2.1, List.length_nil] at h9; omega), ← List.append_assoc, HT.out]
          have h0 : (⟨#[44]⟩ : ByteArray) = bs [44] := rfl
          rw [h0, bs_append, bs_append]
          simp
theorem refreply_calls (er a s v t0 t1 t2 t3 t4 t5 t6 : Int) (w : World) (hI : ∀ x ∈ [er, a, s, v, t0, t1, t2, t3, t4, t5, t6], In64 x) :
    Calls Tryd.prog 21 #[.agg #[.int .i64 er, .int .i64 a, .int .i64 s, .int .i64 v, .int .i64 t0, .int .i64 t1, .int .i64 t2, .int .i64 t3, .int .i64 t4, .int .i64 t5, .int .i64 t6]] w fun e w' => e = .returned (.string (bs (replyT er a s v [t0, t1, t2, t3, t4, t5, t6]))) ∧ Below w.heap.size w w' := by
  by_cases he : er = 0
  · exact refreply_main er a s v t0 t1 t2 t3 t4 t5 t6 w he (fun x hx => hI x (List.mem_cons_of_mem _ hx))
  · exact refreply_err er a s v t0 t1 t2 t3 t4 t5 t6 w he (hI er (List.mem_cons_self ..))
end Go.Proofs.YtkachkmmjlboeaaDoor.X

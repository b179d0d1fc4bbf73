/- callcode.Reply: contract by hand. Conditions: none. -/
import Derived.Test.YtkachkmmjlboeaaDoorXParse
namespace Go.Proofs.YtkachkmmjlboeaaDoor.X
open Go.RowKit Go.Proofs.YtkachkmmjlboeaaDoor.YAll Go.Proofs.YtkachkmmjlboeaaDoorW.PrintWords Go.Proofs.YtkachkmmjlboeaaDoorW.PrintLast Go.Proofs.YtkachkmmjlboeaaDoorW.PrintMore
set_option linter.unusedVariables false
set_option linter.unusedSimpArgs false

def okL : List UInt8 := [111, 107]
def errL : List UInt8 := [101, 114, 114, 111, 114, 32]
/-- A number with its sign ahead, if there is one. -/
def sgn (x : UInt8 × Int) : List (List UInt8) := if x.2 = 0 then [] else [x.1 :: numL x.2]
def sgns (a s v : Int) : List (UInt8 × Int) := [(97, a), (115, s), (118, v)]
def statW (ts : List Int) : List (List UInt8) := if ts = [0, 0, 0, 0, 0, 0, 0] then [] else [116 :: jns 44 (ts.map numL)]
def replyT (er a s v : Int) (ts : List Int) : List UInt8 := if er ≠ 0 then errL ++ numL er else jn (okL :: ((sgns a s v).flatMap sgn ++ statW ts))
/-- At block b lie these numbers. -/
def CellsAt (w : World) (b : Nat) (c : List Int) (t : Nat) : Prop := w.heap[b]? = some (.cells (c.map (Value.int .i64)).toArray t)
theorem CellsAt.alloc {w : World} {b : Nat} {c : List Int} {t : Nat} (h : CellsAt w b c t) (o : Obj) : CellsAt (w.alloc o) b c t := blk_alloc h o
theorem CellsAt.below {w w' : World} {b : Nat} {c : List Int} {t : Nat} (h : CellsAt w b c t) (hb : Below w.heap.size w w') : CellsAt w' b c t := blk_below h hb
theorem sgn_next (l : List (UInt8 × Int)) (i : Nat) (x : UInt8 × Int) (h : l[i]? = some x) : (l.take (i + 1)).flatMap sgn = (l.take i).flatMap sgn ++ sgn x := by
  rw [List.take_add_one, h, List.flatMap_append]
  simp
theorem sgns_in {a s v n : Int} {sc : UInt8} {k : Nat} (hI : ∀ x ∈ [a, s, v], In64 x) (h : (sgns a s v)[k]? = some (sc, n)) : In64 n := by
  have hm := List.mem_of_getElem? h
  simp only [sgns, List.mem_cons, Prod.mk.injEq, List.not_mem_nil, or_false] at hm
  rcases hm with ⟨_, rfl⟩ | ⟨_, rfl⟩ | ⟨_, rfl⟩
  · exact hI _ (by simp)
  · exact hI _ (by simp)
  · exact hI _ (by simp)
theorem sgn_le (x : UInt8 × Int) : (sgn x).length ≤ 1 := by unfold sgn; split <;> simp
theorem sgns_len {a s v : Int} (k : Nat) : (((sgns a s v).take k).flatMap sgn).length ≤ 3 := by
  have h : ∀ l : List (UInt8 × Int), (l.flatMap sgn).length ≤ l.length := by
    intro l
    induction l with
    | nil => simp
    | cons x l ih => rw [List.flatMap_cons, List.length_append, List.length_cons]; have := sgn_le x; omega
  have h1 := h ((sgns a s v).take k)
  have h2 : ((sgns a s v).take k).length ≤ 3 := by rw [List.length_take]; exact Nat.min_le_right _ _
  omega
theorem sgns_all {a s v : Int} : ((sgns a s v).flatMap sgn).length ≤ 3 := by
  have h := sgns_len (a := a) (s := s) (v := v) 3
  exact h
theorem sgn_mem {a s v : Int} (hI : ∀ x ∈ [a, s, v], In64 x) : ∀ x ∈ okL :: (sgns a s v).flatMap sgn, x.length ≤ 21 := by
  intro x hx
  rcases List.mem_cons.1 hx with rfl | hx
  · decide
  · obtain ⟨y, hy, hx⟩ := List.mem_flatMap.1 hx
    unfold sgn at hx
    split at hx
    · exact absurd hx (by simp)
    · obtain rfl := List.mem_singleton.1 hx
      obtain ⟨k, hk⟩ := List.getElem?_of_mem hy
      have := numL_len y.2 (sgns_in (sc := y.1) hI hk)
      rw [List.length_cons]; omega
theorem sgns_jn {a s v : Int} (hI : ∀ x ∈ [a, s, v], In64 x) : (jns 32 (okL :: (sgns a s v).flatMap sgn)).length ≤ 1000 := by
  have h := jns_len 32 21 _ (sgn_mem hI)
  have h2 := sgns_all (a := a) (s := s) (v := v)
  rw [List.length_cons] at h
  omega
theorem reply_jn {a s v : Int} (hI : ∀ x ∈ [a, s, v], In64 x) (tl : List UInt8) (h : tl.length ≤ 147) : (jns 32 (okL :: ((sgns a s v).flatMap sgn ++ [116 :: tl]))).length ≤ 140737488355328 := by
  have h1 := jns_len 32 148 (okL :: ((sgns a s v).flatMap sgn ++ [116 :: tl])) (fun x hx => by
    rcases List.mem_cons.1 hx with rfl | hx
    · decide
    · rcases List.mem_append.1 hx with hx | hx
      · have := sgn_mem hI x (List.mem_cons_of_mem _ hx); omega
      · obtain rfl := List.mem_singleton.1 hx; rw [List.length_cons]; omega)
  have h2 := sgns_all (a := a) (s := s) (v := v)
  rw [List.length_cons, List.length_append, List.length_singleton] at h1
  omega
theorem ws_snoc {w : World} {base : Nat} {v : Value} {x y : List UInt8} {ls : List (List UInt8)} (h : Kd.R Kd.string 9 w base (fun _ => True) v (List.map bs (x :: ls) ++ [bs y])) : Ws w base v (x :: (ls ++ [y])) := by
  have e : List.map bs (x :: ls) ++ [bs y] = List.map bs (x :: (ls ++ [y])) := by simp
  rw [e] at h
  exact h
theorem reply_err (er a s v t0 t1 t2 t3 t4 t5 t6 : Int) (w : World) (he : er ≠ 0) (hI : In64 er) :
    Calls Tryd.prog 20 #[.agg #[.int .i64 er, .int .i64 a, .int .i64 s, .int .i64 v, .int .i64 t0, .int .i64 t1, .int .i64 t2, .int .i64 t3, .int .i64 t4, .int .i64 t5, .int .i64 t6]] w fun e w' => e = .returned (.string (bs (replyT er a s v [t0, t1, t2, t3, t4, t5, t6]))) ∧ Below w.heap.size w w' := by
  have b0 : (er == 0) = false := by simpa using he
  have b1 : (er != 0) = true := by simpa using he
  have hl : ¬ (9223372036854775807 < (6 : Int) + ((numL er).length : Int)) := by have := numL_len er hI; omega
  have hsz := bs_size (numL er)
  have HI := Aside0.mk (And.intro hI he)
  clear hI
  go_enter Tryd.func20, Tryd.ntmps20
  go_wp2_with (go_at_call 10; go_loud (refine (num_calls er _ HI.out.1).mono ?_; rintro e w1 ⟨rfl, hB1⟩))
  go_ret
  refine ⟨?_, bthen (ballo (Below.refl _ _) _) hB1⟩
  have e : replyT er a s v [t0, t1, t2, t3, t4, t5, t6] = errL ++ numL er := if_pos HI.out.2
  rw [e, ← bs_append]
  rfl
set_option maxRecDepth 100000 in
set_option maxHeartbeats 20000000 in
theorem reply_main (er a s v t0 t1 t2 t3 t4 t5 t6 : Int) (w : World) (he : er = 0) (hI : ∀ x ∈ [a, s, v, t0, t1, t2, t3, t4, t5, t6], In64 x) :
    Calls Tryd.prog 20 #[.agg #[.int .i64 er, .int .i64 a, .int .i64 s, .int .i64 v, .int .i64 t0, .int .i64 t1, .int .i64 t2, .int .i64 t3, .int .i64 t4, .int .i64 t5, .int .i64 t6]] w fun e w' => e = .returned (.string (bs (replyT er a s v [t0, t1, t2, t3, t4, t5, t6]))) ∧ Below w.heap.size w w' := by
  subst he
  have HI := Aside0.mk hI
  clear hI
  go_enter Tryd.func20, Tryd.ntmps20
  have BX : CellsAt (w.alloc (Obj.cells #[.int .i64 0, .int .i64 a, .int .i64 s, .int .i64 v, .int .i64 t0, .int .i64 t1, .int .i64 t2, .int .i64 t3, .int .i64 t4, .int .i64 t5, .int .i64 t6] 46)) w.heap.size [0, a, s, v, t0, t1, t2, t3, t4, t5, t6] 46 := blk_new w _
  have BY := BX.alloc (Obj.cells #[.string ⟨#[111, 107]⟩] 9)
  obtain ⟨hc1, hc2, hc3⟩ : _ ∧ _ ∧ _ := ⟨blk_cell BY 1, blk_cell BY 2, blk_cell BY 3⟩
  go_wp2_with fail
  have S1 := Kd.R_alloc (ws_new (w.alloc (Obj.cells #[.int .i64 0, .int .i64 a, .int .i64 s, .int .i64 v, .int .i64 t0, .int .i64 t1, .int .i64 t2, .int .i64 t3, .int .i64 t4, .int .i64 t5, .int .i64 t6] 46)) w.heap.size (by rw [size_al]; omega) okL) (Obj.cells #[.string ⟨#[97]⟩, .int .i64 a, .string ⟨#[115]⟩, .int .i64 s, .string ⟨#[118]⟩, .int .i64 v] 74)
  rw [size_al] at S1
  have B1 := ballo (ballo (ballo (Below.refl w.heap.size w) (Obj.cells #[.int .i64 0, .int .i64 a, .int .i64 s, .int .i64 v, .int .i64 t0, .int .i64 t1, .int .i64 t2, .int .i64 t3, .int .i64 t4, .int .i64 t5, .int .i64 t6] 46)) (Obj.cells #[.string ⟨#[111, 107]⟩] 9)) (Obj.cells #[.string ⟨#[97]⟩, .int .i64 a, .string ⟨#[115]⟩, .int .i64 s, .string ⟨#[118]⟩, .int .i64 v] 74)
  have X1 := BY.alloc (Obj.cells #[.string ⟨#[97]⟩, .int .i64 a, .string ⟨#[115]⟩, .int .i64 s, .string ⟨#[118]⟩, .int .i64 v] 74)
  have Z1 := blk_newq ((w.alloc (Obj.cells #[.int .i64 0, .int .i64 a, .int .i64 s, .int .i64 v, .int .i64 t0, .int .i64 t1, .int .i64 t2, .int .i64 t3, .int .i64 t4, .int .i64 t5, .int .i64 t6] 46)).alloc (Obj.cells #[.string ⟨#[111, 107]⟩] 9)) (Obj.cells #[.string ⟨#[97]⟩, .int .i64 a, .string ⟨#[115]⟩, .int .i64 s, .string ⟨#[118]⟩, .int .i64 v] 74) (q := w.heap.size + 1 + 1) (by rw [size_al, size_al])
  have K1 : Aside0 (Ws (((w.alloc (Obj.cells #[.int .i64 0, .int .i64 a, .int .i64 s, .int .i64 v, .int .i64 t0, .int .i64 t1, .int .i64 t2, .int .i64 t3, .int .i64 t4, .int .i64 t5, .int .i64 t6] 46)).alloc (Obj.cells #[.string ⟨#[111, 107]⟩] 9)).alloc (Obj.cells #[.string ⟨#[97]⟩, .int .i64 a, .string ⟨#[115]⟩, .int .i64 s, .string ⟨#[118]⟩, .int .i64 v] 74)) w.heap.size (.slice (some ⟨w.heap.size + 1, 0, none⟩) 1 1) [okL]) := ⟨S1⟩
  generalize ((w.alloc (Obj.cells #[.int .i64 0, .int .i64 a, .int .i64 s, .int .i64 v, .int .i64 t0, .int .i64 t1, .int .i64 t2, .int .i64 t3, .int .i64 t4, .int .i64 t5, .int .i64 t6] 46)).alloc (Obj.cells #[.string ⟨#[111, 107]⟩] 9)).alloc (Obj.cells #[.string ⟨#[97]⟩, .int .i64 a, .string ⟨#[115]⟩, .int .i64 s, .string ⟨#[118]⟩, .int .i64 v] 74) = w3 at *
  generalize w.heap.size + 1 + 1 = q27 at *
  have HX := Aside0.mk X1
  have HZ := Aside0.mk Z1
  have HB1 := Aside0.mk B1
  clear S1 B1 X1 Z1 BX BY hc1 hc2 hc3
  go_loopg [29, 3] 3 (fun kq v29 v3 w' => ∃ (i : Int), v29 = .int .i64 i ∧ 0 ≤ i ∧ i + (kq : Int) = 3 ∧ Aside0 (Ws w' w.heap.size v3 (okL :: ((sgns a s v).take i.toNat).flatMap sgn)) ∧ Aside0 (CellsAt w' w.heap.size [0, a, s, v, t0, t1, t2, t3, t4, t5, t6] 46) ∧ Aside0 (w'.heap[q27]? = some (.cells #[.string ⟨#[97]⟩, .int .i64 a, .string ⟨#[115]⟩, .int .i64 s, .string ⟨#[118]⟩, .int .i64 v] 74)) ∧ Aside0 (Below w.heap.size w w'))
  case atStart => exact ⟨0, rfl, Int.le_refl _, by omega, K1, HX, HZ, HB1⟩
  case round =>
    obtain ⟨i, rfl, hi0, hi, HW, HX1, HZ1, HB⟩ := hrel
    clear K1 HX HZ HB1
    cases gk with
    | zero =>
      have hlt : decide (i < 3) = false := decide_eq_false (by omega)
      obtain ⟨h4, h5, h6, h7, h8, h9, h10⟩ : _ ∧ _ ∧ _ ∧ _ ∧ _ ∧ _ ∧ _ := ⟨blk_cell HX1.out 4, blk_cell HX1.out 5, blk_cell HX1.out 6, blk_cell HX1.out 7, blk_cell HX1.out 8, blk_cell HX1.out 9, blk_cell HX1.out 10⟩
      go_upto_region 11 with fail
      have et : (sgns a s v).take i.toNat = sgns a s v := List.take_of_length_le (by show 3 ≤ i.toNat; omega)
      rw [et] at HW
      have G6 := blk_new wr (Obj.cells #[.int .i64 t0, .int .i64 t1, .int .i64 t2, .int .i64 t3, .int .i64 t4, .int .i64 t5, .int .i64 t6] 44)
      have B6 := ballo HB.out (Obj.cells #[.int .i64 t0, .int .i64 t1, .int .i64 t2, .int .i64 t3, .int .i64 t4, .int .i64 t5, .int .i64 t6] 44)
      have K6 : Aside0 (Ws (wr.alloc (Obj.cells #[.int .i64 t0, .int .i64 t1, .int .i64 t2, .int .i64 t3, .int .i64 t4, .int .i64 t5, .int .i64 t6] 44)) w.heap.size u3 (okL :: (sgns a s v).flatMap sgn)) := ⟨Kd.R_alloc HW.out _⟩
      generalize wr.alloc (Obj.cells #[.int .i64 t0, .int .i64 t1, .int .i64 t2, .int .i64 t3, .int .i64 t4, .int .i64 t5, .int .i64 t6] 44) = w6 at *
      generalize wr.heap.size = q6 at *
      have HG6 := Aside0.mk G6
      have HB6 := Aside0.mk B6
      obtain ⟨z0, z1, z2, z3, z4, z5, z6⟩ : _ ∧ _ ∧ _ ∧ _ ∧ _ ∧ _ ∧ _ := ⟨blk_cell G6 0, blk_cell G6 1, blk_cell G6 2, blk_cell G6 3, blk_cell G6 4, blk_cell G6 5, blk_cell G6 6⟩
      clear G6 B6 HW HX1 HZ1 HB h4 h5 h6 h7 h8 h9 h10
      obtain ⟨st, hst⟩ : ∃ st, decide ([t0, t1, t2, t3, t4, t5, t6] = [0, 0, 0, 0, 0, 0, 0]) = st := ⟨_, rfl⟩
      have HST := Aside0.mk hst
      clear hst
      go_cut [50] (fun s50 wy => s50 = .bool (!st) ∧ wy = w6)
      case first =>
        by_cases c0 : t0 = 0
        · have d0 := eq_true c0
          clear c0
          by_cases c1 : t1 = 0
          · have d1 := eq_true c1
            clear c1
            by_cases c2 : t2 = 0
            · have d2 := eq_true c2
              clear c2
              by_cases c3 : t3 = 0
              · have d3 := eq_true c3
                clear c3
                by_cases c4 : t4 = 0
                · have d4 := eq_true c4
                  clear c4
                  by_cases c5 : t5 = 0
                  · have d5 := eq_true c5
                    clear c5
                    by_cases c6 : t6 = 0
                    · have d6 := eq_true c6
                      clear c6
                      go_wp2_with fail
                      go_meet
                      exact ⟨by rw [← HST.out]; simp [d0, d1, d2, d3, d4, d5, d6], rfl⟩
                    · have d6 := eq_false c6
                      clear c6
                      go_wp2_with fail
                      go_meet
                      exact ⟨by rw [← HST.out]; simp [d0, d1, d2, d3, d4, d5, d6], rfl⟩
                  · have d5 := eq_false c5
                    clear c5
                    go_wp2_with fail
                    go_meet
                    exact ⟨by rw [← HST.out]; simp [d0, d1, d2, d3, d4, d5], rfl⟩
                · have d4 := eq_false c4
                  clear c4
                  go_wp2_with fail
                  go_meet
                  exact ⟨by rw [← HST.out]; simp [d0, d1, d2, d3, d4], rfl⟩
              · have d3 := eq_false c3
                clear c3
                go_wp2_with fail
                go_meet
                exact ⟨by rw [← HST.out]; simp [d0, d1, d2, d3], rfl⟩
            · have d2 := eq_false c2
              clear c2
              go_wp2_with fail
              go_meet
              exact ⟨by rw [← HST.out]; simp [d0, d1, d2], rfl⟩
          · have d1 := eq_false c1
            clear c1
            go_wp2_with fail
            go_meet
            exact ⟨by rw [← HST.out]; simp [d0, d1], rfl⟩
        · have d0 := eq_false c0
          clear c0
          go_wp2_with fail
          go_meet
          exact ⟨by rw [← HST.out]; simp [d0], rfl⟩
      case rest =>
        obtain ⟨rfl, rfl⟩ := hcut
        cases st with
        | true =>
          go_wp2_with (go_at_call 28; go_loud (refine (join_calls 32 u3 (okL :: (sgns a s v).flatMap sgn) _ _ K6.out (by simp) (Nat.le_trans (Nat.succ_le_succ (sgns_all (a := a) (s := s) (v := v))) (by decide)) (Nat.le_trans (sgns_jn (fun x hx => HI.out x (by simp at hx ⊢; rcases hx with h | h | h <;> simp [h]))) (by decide))).mono ?_; rintro e w2 ⟨rfl, hB2⟩))
          go_ret
          refine ⟨?_, bthen HB6.out hB2⟩
          have hz : [t0, t1, t2, t3, t4, t5, t6] = [0, 0, 0, 0, 0, 0, 0] := of_decide_eq_true HST.out
          have e : replyT 0 a s v [t0, t1, t2, t3, t4, t5, t6] = jn (okL :: (sgns a s v).flatMap sgn) := by
            unfold replyT
            rw [if_neg (by decide)]
            unfold statW
            rw [if_pos hz, List.append_nil]
          rw [e]
          rfl
        | false =>
          go_wp2_with fail
          have G7 := blk_new wc (Obj.cells #[.int .i64 t0, .int .i64 t1, .int .i64 t2, .int .i64 t3, .int .i64 t4, .int .i64 t5, .int .i64 t6] 3)
          have B7 := ballo HB6.out (Obj.cells #[.int .i64 t0, .int .i64 t1, .int .i64 t2, .int .i64 t3, .int .i64 t4, .int .i64 t5, .int .i64 t6] 3)
          have K7 : Aside0 (Ws (wc.alloc (Obj.cells #[.int .i64 t0, .int .i64 t1, .int .i64 t2, .int .i64 t3, .int .i64 t4, .int .i64 t5, .int .i64 t6] 3)) w.heap.size u3 (okL :: (sgns a s v).flatMap sgn)) := ⟨Kd.R_alloc K6.out _⟩
          generalize wc.alloc (Obj.cells #[.int .i64 t0, .int .i64 t1, .int .i64 t2, .int .i64 t3, .int .i64 t4, .int .i64 t5, .int .i64 t6] 3) = w7 at *
          generalize wc.heap.size = q7 at *
          have HG7 := Aside0.mk G7
          have HB7 := Aside0.mk B7
          clear G7 B7 K6 HG6 HB6 z0 z1 z2 z3 z4 z5 z6
          obtain ⟨ts, hts⟩ : ∃ ts, [t0, t1, t2, t3, t4, t5, t6] = ts := ⟨_, rfl⟩
          have htl : ts.length = 7 := by rw [← hts]; rfl
          have htI : ∀ x ∈ ts, In64 x := fun x hx => HI.out x (by rw [← hts] at hx; simp at hx ⊢; rcases hx with h | h | h | h | h | h | h <;> simp [h])
          have htc : ∀ (i : Nat) (x : Int), ts[i]? = some x → w7.cell? ⟨q7, i, none⟩ = some (.int .i64 x) := fun i x hx => by
            rw [blk_cell HG7.out]
            have e : (#[Value.int .i64 t0, .int .i64 t1, .int .i64 t2, .int .i64 t3, .int .i64 t4, .int .i64 t5, .int .i64 t6] : Array Value) = (ts.map (Value.int .i64)).toArray := by rw [← hts]; rfl
            rw [e]
            simp [hx]
          have HTS := Aside0.mk (And.intro hts (And.intro htl (And.intro htI htc)))
          clear hts htl htI htc
          go_loopg [67, 7] 7 (fun kq v67 v7 w' => ∃ (i : Int), v67 = .int .i64 i ∧ 0 ≤ i ∧ i + (kq : Int) = 7 ∧ Aside0 (Ws w' w7.heap.size v7 ((ts.take i.toNat).map numL)) ∧ Aside0 (Below w7.heap.size w7 w'))
          case atStart => exact ⟨0, rfl, Int.le_refl _, by omega, ⟨Kd.R_nil _ _ _ _ _⟩, ⟨Below.refl _ _⟩⟩
          case round =>
            obtain ⟨i, rfl, hi0, hi, HW, HB⟩ := hrel
            cases gk with
            | zero =>
              have hlt : decide (i < 7) = false := decide_eq_false (by omega)
              have et : ts.take i.toNat = ts := List.take_of_length_le (by rw [HTS.out.2.1]; omega)
              rw [et] at HW
              obtain ⟨tl, htl⟩ : ∃ tl, jns 44 (ts.map numL) = tl := ⟨_, rfl⟩
              have htn : tl.length ≤ 147 := by
                have h := jns_len 44 20 (ts.map numL) (fun y hy => by obtain ⟨n, hn, rfl⟩ := List.mem_map.1 hy; exact numL_len n (HTS.out.2.2.1 n hn))
                rw [htl, List.length_map, HTS.out.2.1] at h
                omega
              have HTL := Aside0.mk (And.intro htl htn)
              have hsz := bs_size tl
              have K9 : Aside0 (Ws wr w.heap.size u3 (okL :: (sgns a s v).flatMap sgn)) := ⟨Kd.R_below K7.out HB.out⟩
              have B9 : Aside0 (Below w.heap.size w wr) := ⟨bthen HB7.out HB.out⟩
              obtain ⟨tt, htt⟩ : ∃ tt, (⟨#[116]⟩ : ByteArray) ++ bs tl = tt := ⟨_, rfl⟩
              have htt2 : tt = bs (116 :: tl) := by rw [← htt]; exact bs_append [116] tl
              have HTT := Aside0.mk htt2
              clear htl htt2
              have HNE : Aside0 ((okL :: ((sgns a s v).flatMap sgn ++ [116 :: tl])) ≠ []) := ⟨List.cons_ne_nil _ _⟩
              have HLN : Aside0 ((okL :: ((sgns a s v).flatMap sgn ++ [116 :: tl])).length ≤ 140737488355328) := ⟨by have := sgns_all (a := a) (s := s) (v := v); rw [List.length_cons, List.length_append, List.length_singleton]; omega⟩
              have HJN : Aside0 ((jns 32 (okL :: ((sgns a s v).flatMap sgn ++ [116 :: tl]))).length ≤ 140737488355328) := ⟨reply_jn (fun x hx => HI.out x (by simp at hx ⊢; rcases hx with h | h | h <;> simp [h])) tl HTL.out.2⟩
              go_wp2_with (first
                | (go_at_call 28; refine (join_calls 32 v11 (okL :: ((sgns a s v).flatMap sgn ++ [116 :: tl])) w.heap.size w11 HO11.out HNE.out HLN.out HJN.out).mono ?_; rintro e w12 ⟨rfl, hB12⟩)
                | (go_at_call 28; go_loud (refine (join_calls 44 u7 (ts.map numL) _ _ HW.out (by intro e; have := congrArg List.length e; rw [List.length_map, HTS.out.2.1] at this; exact absurd this (by decide)) (by rw [List.length_map, HTS.out.2.1]; decide) (by rw [HTL.out.1]; exact Nat.le_trans HTL.out.2 (by decide))).mono ?_; rintro e w10 ⟨rfl, hB10⟩; rw [HTL.out.1]; have HB10 := Aside0.mk hB10; clear hB10))
                | ((with_reducible refine gate_builtin (b := .append) (xs := #[.tmp 77, .tmp 81]) rfl ?_); at_builtin; go_loud (refine Kd.R_append Kd.string (w0 := w) w.heap.size rfl (.tmp 77) (.tmp 81) 25 9 (.string ⟨#[]⟩) 16 rfl Tryd.underlying25 info9 rfl (by decide) (by omega) u3 _ tt [.string tt] (fun _ => True) (fun _ => False) rfl rfl rfl (fun _ hk => hk.elim) (fun _ _ => trivial) (Kd.R_below K9.out HB10.out) (bthen B9.out HB10.out) (bthen B9.out HB10.out).size (by have := sgns_all (a := a) (s := s) (v := v); rw [List.length_map, List.length_cons]; omega) ?_; intro v11 w11 ho hb11 hg11 hat11; have HO11 : Aside0 (Ws w11 w.heap.size v11 (okL :: ((sgns a s v).flatMap sgn ++ [116 :: tl]))) := ⟨by rw [HTT.out] at ho; exact ws_snoc ho⟩; have HB11 := Aside0.mk hb11; clear ho hb11 hg11 hat11)))
              go_ret
              refine ⟨?_, bthen HB11.out hB12⟩
              have e : replyT 0 a s v [t0, t1, t2, t3, t4, t5, t6] = jn (okL :: ((sgns a s v).flatMap sgn ++ [116 :: tl])) := by
                unfold replyT
                rw [if_neg (by decide)]
                unfold statW
                rw [if_neg (of_decide_eq_false HST.out), HTS.out.1, HTL.out.1]
              rw [e]
              rfl
            | succ gk =>
              have hlt : decide (i < 7) = true := decide_eq_true (by omega)
              have hin : i.toNat < ts.length := by rw [HTS.out.2.1]; omega
              obtain ⟨x, hx⟩ : ∃ x, ts[i.toNat] = x := ⟨_, rfl⟩
              have cx := pw_cell_below HB.out (HTS.out.2.2.2 i.toNat x (by rw [List.getElem?_eq_getElem hin, hx]))
              have HXX := Aside0.mk (And.intro hx (HTS.out.2.2.1 x (by rw [← hx]; exact List.getElem_mem _)))
              clear hx
              go_wp2_with (first
                | (go_at_call 10; go_loud (refine (num_calls x _ HXX.out.2).mono ?_; rintro e w9 ⟨rfl, hB9⟩; have HB9 := Aside0.mk hB9; clear hB9))
                | ((with_reducible refine gate_builtin (b := .append) (xs := #[.tmp 71, .tmp 74]) rfl ?_); at_builtin; go_loud (refine Kd.R_append Kd.string (w0 := w7) w7.heap.size rfl (.tmp 71) (.tmp 74) 25 9 (.string ⟨#[]⟩) 16 rfl Tryd.underlying25 info9 rfl (by decide) (by omega) u7 _ (bs (numL x)) [.string (bs (numL x))] (fun _ => True) (fun _ => False) rfl rfl rfl (fun _ hk => hk.elim) (fun _ _ => trivial) (Kd.R_below HW.out HB9.out) (bthen HB.out HB9.out) (bthen HB.out HB9.out).size (by rw [List.length_map, List.length_map, List.length_take]; omega) ?_; intro v9 w10 ho hb9 hg9 hat9; have HO9 := Aside0.mk ho; have HB10 := Aside0.mk hb9; clear ho hb9 hg9 hat9)))
              go_roundg gk
              case measure => omega
              case rel =>
                refine ⟨i + 1, rfl, by omega, by omega, ⟨?_⟩, HB10⟩
                have h9 := HO9.out
                rw [show (i + 1).toNat = i.toNat + 1 by omega, take_next ts i.toNat hin, HXX.out.1, List.map_append]
                rw [show List.map bs (List.map numL (List.take i.toNat ts)) ++ [bs (numL x)] = List.map bs (List.map numL (List.take i.toNat ts) ++ List.map numL [x]) by simp] at h9
                exact h9
    | succ gk =>
      have hlt : decide (i < 3) = true := decide_eq_true (by omega)
      obtain ⟨k, hk⟩ : ∃ k : Nat, (k : Int) = i := ⟨i.toNat, by omega⟩
      have hk3 : k < 3 := by omega
      obtain ⟨sc, n, hsn⟩ : ∃ sc n, (sgns a s v)[k]? = some (sc, n) := by
        have h : k = 0 ∨ k = 1 ∨ k = 2 := by omega
        rcases h with rfl | rfl | rfl <;> exact ⟨_, _, rfl⟩
      have hc : wr.cell? ⟨q27, k * 2, none⟩ = some (.string (bs [sc])) ∧ wr.cell? ⟨q27, k * 2 + 1, none⟩ = some (.int .i64 n) := by
        have h : k = 0 ∨ k = 1 ∨ k = 2 := by omega
        rw [blk_cell HZ1.out, blk_cell HZ1.out]
        rcases h with rfl | rfl | rfl <;> (injection hsn with e; injection e with e1 e2; subst e1 e2; exact ⟨rfl, rfl⟩)
      rw [show k = i.toNat by omega] at hc
      obtain ⟨hca, hcb⟩ := hc
      have HK := Aside0.mk (And.intro hk (And.intro hk3 hsn))
      clear hk hk3 hsn
      by_cases hn : n = 0
      · subst hn
        go_wp2_with fail
        go_roundg gk
        case measure => omega
        case rel =>
          obtain ⟨hk, hk3, hsn⟩ := HK.out
          refine ⟨i + 1, rfl, by omega, by omega, ⟨?_⟩, ⟨HX1.out.alloc _⟩, ⟨blk_alloc HZ1.out _⟩, ⟨ballo HB.out _⟩⟩
          rw [show (i + 1).toNat = i.toNat + 1 by omega, sgn_next _ i.toNat _ (by rw [← hsn]; congr 1; omega), show sgn (sc, 0) = [] from rfl, List.append_nil]
          exact Kd.R_alloc HW.out _
      · have b0 : (n == 0) = false := by simpa using hn
        have b1 : (n != 0) = true := by simpa using hn
        go_upto_region 8 with fail
        have G5 := blk_new wr (Obj.cells #[.string (bs [sc]), .int .i64 n] 74)
        have B5 := ballo HB.out (Obj.cells #[.string (bs [sc]), .int .i64 n] 74)
        have W5 := Kd.R_alloc HW.out (Obj.cells #[.string (bs [sc]), .int .i64 n] 74)
        have X5 := HX1.out.alloc (Obj.cells #[.string (bs [sc]), .int .i64 n] 74)
        have Z5 := blk_alloc HZ1.out (Obj.cells #[.string (bs [sc]), .int .i64 n] 74)
        have K5 : Aside0 (Ws (wr.alloc (Obj.cells #[.string (bs [sc]), .int .i64 n] 74)) w.heap.size u3 (okL :: ((sgns a s v).take i.toNat).flatMap sgn)) := ⟨W5⟩
        generalize wr.alloc (Obj.cells #[.string (bs [sc]), .int .i64 n] 74) = w5 at *
        generalize wr.heap.size = q5 at *
        have HG5 := Aside0.mk G5
        have HB5 := Aside0.mk B5
        have HX5 := Aside0.mk X5
        have HZ5 := Aside0.mk Z5
        clear G5 B5 W5 X5 Z5 HW HX1 HZ1 HB
        obtain ⟨st, hst⟩ : ∃ st, bs [sc] ++ bs (numL n) = st := ⟨_, rfl⟩
        have hst2 : st = bs (sc :: numL n) := by rw [← hst, bs_append]; rfl
        have HST := Aside0.mk hst2
        have hnI : In64 n := sgns_in (fun x hx => HI.out x (by simp at hx ⊢; rcases hx with h | h | h <;> simp [h])) HK.out.2.2
        have hsz := bs_size (numL n)
        have hsl := numL_len n hnI
        have hs1 : (bs [sc]).size = 1 := rfl
        have hl1 : (9223372036854775807 < 1 + (numL n).length) = False := eq_false (by omega)
        have hl2 : (9223372036854775807 < (bs [sc]).size + (bs (numL n)).size) = False := eq_false (by rw [hsz, hs1]; omega)
        have hl3 : decide (9223372036854775807 < 1 + (numL n).length) = false := decide_eq_false (by omega)
        have HNI := Aside0.mk hnI
        clear hst2 hnI
        have KS : Aside0 (∀ w' : World, w'.heap[q5]? = some (.cells #[.string (bs [sc]), .int .i64 n] 74) → w'.cell? ⟨q5, 0, none⟩ = some (.string (bs [sc])) ∧ w'.cell? ⟨q5, 1, none⟩ = some (.int .i64 n)) := ⟨fun w' hb => ⟨(blk2 hb).1, (blk2 hb).2.1⟩⟩
        have HV := Aside0.mk (blk_drew HG5.out)
        go_region_held3 (fun w' => w'.cell? ⟨q5, 0, none⟩ = some (.string (bs [sc])) ∧ w'.cell? ⟨q5, 1, none⟩ = some (.int .i64 n))
          (first | (with_reducible exact KS.out _ HV.out) | (with_reducible exact KS.out _ (blk_alloc HV.out _)) | exact KS.out _ HV.out)
          (first
            | (go_at_call 10; go_loud (refine (num_calls n _ HNI.out).mono ?_; rintro e w6 ⟨rfl, hB6⟩; have HB6 := Aside0.mk hB6; have HV := Aside0.mk (blk_below HV.out hB6); clear hB6))
            | ((refine Kd.R_append_step Kd.string (w0 := w) w.heap.size (by rfl) (.tmp 36) (.tmp 43) 25 9 (.string ⟨#[]⟩) 16 (by rfl) Tryd.underlying25 info9 rfl (by decide) (by omega) u3 _ st [.string st] (fun _ => True) (fun _ => False) (by rfl) (by rfl) (by rfl) (fun _ hk => hk.elim) (fun _ _ => trivial) (Kd.R_below (Kd.R_drew K5.out) HB6.out) (bthen (below_drew HB5.out) HB6.out) (bthen (below_drew HB5.out) HB6.out).size (by have := sgns_len (a := a) (s := s) (v := v) i.toNat; rw [List.length_map, List.length_cons]; omega) ?_); intro v9 w9 ho hb9 hg9 hat9; have HO9 := Aside0.mk ho; have HB9 := Aside0.mk hb9; have HG9 := Aside0.mk hg9; have HV := Aside0.mk (blk_grown HV.out hg9 (Kd.R_ne (Kd.R_below (Kd.R_drew K5.out) HB6.out) HV.out (by decide))); clear ho hb9 hg9 hat9))
        all_goals go_wp2_with fail
        go_roundg gk
        case measure => omega
        case rel =>
          obtain ⟨hk, hk3, hsn⟩ := HK.out
          have hR := Kd.R_below (Kd.R_drew K5.out) HB6.out
          have hX9 := blk_below (blk_drew HX5.out) HB6.out
          have hZ9 := blk_below (blk_drew HZ5.out) HB6.out
          refine ⟨i + 1, rfl, by omega, by omega, ⟨?_⟩, ⟨blk_grown hX9 HG9.out (Kd.R_ne hR hX9 (by decide))⟩, ⟨blk_grown hZ9 HG9.out (Kd.R_ne hR hZ9 (by decide))⟩, HB9⟩
          rw [show (i + 1).toNat = i.toNat + 1 by omega, sgn_next _ i.toNat _ (by rw [← hsn]; congr 1; omega), show sgn (sc, n) = [sc :: numL n] from if_neg hn]
          have h9 := HO9.out
          rw [HST.out, show List.map bs (okL :: List.flatMap sgn (List.take i.toNat (sgns a s v))) ++ [bs (sc :: numL n)] = List.map bs (okL :: (List.flatMap sgn (List.take i.toNat (sgns a s v)) ++ [sc :: numL n])) by simp] at h9
          exact h9
end Go.Proofs.YtkachkmmjlboeaaDoor.X

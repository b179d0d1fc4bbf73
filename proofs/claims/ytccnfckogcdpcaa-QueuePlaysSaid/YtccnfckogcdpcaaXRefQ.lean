/- The reference's queue in memory: each of its functions by a contract. Conditions: none. -/
import Derived.Test.YtccnfckogcdpcaaXLastLaw
namespace Go.Proofs.Ytccnfckogcdpcaa.X
open Go.Conc Go.RowKit Go.Proofs.YtccnfckogcdpcaaW.PrintWords
set_option linter.unusedVariables false
set_option linter.unusedSimpArgs false
/-- At block r lie the list's slice, the room and how many were missed. -/
structure Rq0 (w : World) (r : Nat) (A : Option Addr) (c : Nat) (l : List Int) (room m : Int) : Prop where
  c0 : w.cell? ⟨r, 0, none⟩ = some (.slice A l.length c)
  c1 : w.cell? ⟨r, 1, none⟩ = some (.int .i64 room)
  c2 : w.cell? ⟨r, 2, none⟩ = some (.int .i64 m)
  f0 : w.frozen? ⟨r, 0, none⟩ = false
  f2 : w.frozen? ⟨r, 2, none⟩ = false
  C : Kd.C (Kd.int .i64) w A l.length l
  hc : l.length ≤ c
  far : ∀ ad, A = some ad → r < ad.block
  lr : r < w.heap.size
def Rq (w : World) (r : Nat) (l : List Int) (room m : Int) : Prop := ∃ A c, Rq0 w r A c l room m
theorem c_eq {w w' : World} {A : Option Addr} {l : List Int} {r : Nat} (h : Kd.C (Kd.int .i64) w A l.length l) (hk : Keep w w' r r) (hf : ∀ ad, A = some ad → ad.block ≠ r) : Kd.C (Kd.int .i64) w' A l.length l :=
  Kd.C_keep (0 : Int) h ⟨hk.size, fun k hlt hne _ => hk.block k hlt hne hne⟩ (fun ad hA _ => hf ad hA)
theorem Rq0.eq {w w' : World} {r c : Nat} {A : Option Addr} {l : List Int} {room m : Int} (h : Rq0 w r A c l room m) (hs : w.heap.size ≤ w'.heap.size) (hr : w'.heap[r]? = w.heap[r]?) (hC : Kd.C (Kd.int .i64) w' A l.length l) : Rq0 w' r A c l room m :=
  ⟨(World.cell?_of_block (w := w) hr).trans h.c0, (World.cell?_of_block (w := w) hr).trans h.c1, (World.cell?_of_block (w := w) hr).trans h.c2, (World.frozen?_of_block (w := w) hr).trans h.f0, (World.frozen?_of_block (w := w) hr).trans h.f2, hC, h.hc, h.far, Nat.lt_of_lt_of_le h.lr hs⟩
theorem Rq0.after {w w' : World} {r c : Nat} {A : Option Addr} {l : List Int} {room m : Int} (h : Rq0 w r A c l room m) (hb : Below w.heap.size w w') : Rq0 w' r A c l room m := h.eq hb.size (hb.block r h.lr) (Kd.C_below h.C hb)
theorem drawn_b (w : World) (n : Nat) : Below w.heap.size w (w.drewN n) := pw_below_drewN (Below.refl _ _) n
theorem Rq0.miss {w : World} {r c : Nat} {A : Option Addr} {l : List Int} {room m : Int} (h : Rq0 w r A c l room m) (d : Int) : Rq0 (w.setCell ⟨r, 2, none⟩ (.int .i64 d)) r A c l room d :=
  ⟨(World.cell?_setCell_other _ _ _ _ (by simp)).trans h.c0, (World.cell?_setCell_other _ _ _ _ (by simp)).trans h.c1, World.cell?_setCell_same _ _ _ h.c2, by simpa using h.f0, by simpa using h.f2, c_eq h.C (keep_miss _) (fun ad hA => by have := h.far ad hA; omega), h.hc, h.far, by rw [size_setCell]; exact h.lr⟩
theorem Rq0.put {w : World} {r c c' : Nat} {A A' : Option Addr} {l l' : List Int} {room m : Int} (h : Rq0 w r A c l room m) (hC : Kd.C (Kd.int .i64) w A' l'.length l') (hc : l'.length ≤ c') (hf : ∀ ad, A' = some ad → r < ad.block) : Rq0 (w.setCell ⟨r, 0, none⟩ (.slice A' l'.length c')) r A' c' l' room m :=
  ⟨World.cell?_setCell_same _ _ _ h.c0, (World.cell?_setCell_other _ _ _ _ (by simp)).trans h.c1, (World.cell?_setCell_other _ _ _ _ (by simp)).trans h.c2, by simpa using h.f0, by simpa using h.f2, c_eq hC (keep_miss _) (fun ad hA => by have := hf ad hA; omega), hc, hf, by rw [size_setCell]; exact h.lr⟩
theorem new_ref (n : Int) (w : World) : Calls Try.prog 13 #[.int .i64 n] w fun e w' => e = .returned (.pointer (some ⟨w.heap.size, 0, none⟩)) ∧ Rq w' w.heap.size [] ((capOf n : Nat) : Int) 0 ∧ Below w.heap.size w w' := by
  have hq : ∀ v, v = ((capOf n : Nat) : Int) → Rq (w.alloc (.cells #[.slice none 0 0, .int .i64 v, .int .i64 0] 44)) w.heap.size [] ((capOf n : Nat) : Int) 0 ∧ Below w.heap.size w (w.alloc (.cells #[.slice none 0 0, .int .i64 v, .int .i64 0] 44)) := by
    rintro v rfl
    exact ⟨⟨none, 0, ⟨by simp, by simp, by simp, by simp, by simp, Kd.C_nil _ _, Nat.le_refl _, (fun ad h => by cases h), by simp⟩⟩, (Below.refl _ w).alloc (Nat.le_refl _) _⟩
  rcases (show 1024 < n ∨ n < 0 ∨ (0 < n ∧ n < 1024) ∨ n = 0 ∨ n = 1024 by omega) with h | h | h | rfl | rfl
  all_goals (go_enter Try.func13, Try.ntmps13; go_wp2_with fail; skip)
  all_goals (first | omega | exact bodyPost_ret (v := .pointer (some ⟨w.heap.size, 0, none⟩)) (by simp [results, Try.results13, go_sem]) rfl ⟨rfl, hq _ (by unfold capOf; omega)⟩)
theorem rput_full {w : World} {r : Nat} {l : List Int} {room m : Int} (h : Rq w r l room m) (x : Int) (hf : room ≤ (l.length : Int)) : Calls Try.prog 15 #[.pointer (some ⟨r, 0, none⟩), .int .i64 x] w fun e w' => e = .returned (.bool false) ∧ Keep w w' r r ∧ Rq w' r l room (wrap64 (m + 1)) := by
  obtain ⟨A, c, h⟩ := h
  have c0 := h.c0
  have c1 := h.c1
  have c2 := h.c2
  have f2 := h.f2
  have d0 : decide (room ≤ (l.length : Int)) = true := decide_eq_true hf
  have H := Aside0.mk h
  clear h hf
  go_enter Try.func15, Try.ntmps15
  go_wp2
  repeat (go_quiet (fail); try go_wp2)
  exact bodyPost_ret (v := .bool false) (by simp [results, Try.results15, go_sem]) rfl ⟨rfl, (Keep.of_below (drawn_b w nq)).trans (keep_miss _), A, c, (H.out.after (drawn_b w nq)).miss _⟩
theorem own_slice {w : World} {base : Nat} {ok : Nat → Prop} {v : Value} {xs : List Int} (h : Kd.R (Kd.int .i64) 3 w base ok v xs) : ∃ A c, v = .slice A xs.length c ∧ xs.length ≤ c ∧ Kd.C (Kd.int .i64) w A xs.length xs ∧ ∀ ad, A = some ad → base ≤ ad.block := by
  obtain ⟨A, c, rfl, hc, hr⟩ := Kd.R_reads h
  refine ⟨A, c, rfl, hc, hr, fun ad hA => ?_⟩
  subst hA
  exact own_base (Kd.own_of_R h) ad.block (by simp [Value.ownBlock])
set_option maxHeartbeats 4000000 in
theorem rput_room {w : World} {r : Nat} {l : List Int} {room m : Int} (h : Rq w r l room m) (x : Int) (hf : (l.length : Int) < room) (hl : l.length ≤ 2000) : Calls Try.prog 15 #[.pointer (some ⟨r, 0, none⟩), .int .i64 x] w fun e w' => e = .returned (.bool true) ∧ Keep w w' r r ∧ Rq w' r (l ++ [x]) room m := by
  obtain ⟨A, c, h⟩ := h
  have c0 := h.c0
  have c1 := h.c1
  have d0 : decide (room ≤ (l.length : Int)) = false := decide_eq_false (by omega)
  have cA : ∀ (n : Nat) (o : Obj), ((w.drewN n).alloc o).cell? ⟨r, 0, none⟩ = some (.slice A l.length c) := fun n o => (h.after ((drawn_b w n).alloc (Nat.le_refl _) o)).c0
  have H := Aside0.mk h
  have HL := Aside0.mk hl
  clear h hf hl
  go_enter Try.func15, Try.ntmps15
  go_wp2
  repeat (go_quiet (fail); try go_wp2_with first
    | (at_builtin; (refine Kd.R_append_row (Value.int .i64) (0 : Int) (h1 := fun _ => rfl) (w0 := w) w.heap.size rfl (.tmp 23) (.tmp 27) 42 3 (.int .i64 0) 8 rfl Try.underlying42 infoI rfl (by decide) (.slice (some ⟨w.heap.size, 0, none⟩) 0 0) [] l A l.length c (fun _ => True) rfl rfl (fun _ _ => trivial) (Kd.R_of_own (own_lit (w.drewN nq) w.heap.size 3 .i64 [] (Nat.le_refl _) (by simp)) (fun _ _ => trivial)) (Kd.C_below H.out.C ((drawn_b w nq).alloc (Nat.le_refl _) _)) ((drawn_b w nq).alloc (Nat.le_refl _) _) (by simp) (by have := HL.out; simp; omega) ?_); intro v1 w1 hR1 hB1 hg1 hat1; rw [List.nil_append] at hR1; have HR1 := Aside0.mk hR1; have HB1 := Aside0.mk hB1; clear hR1 hB1 hg1 hat1)
    | (at_builtin; go_loud (refine Kd.R_append (w0 := w) (Kd.int .i64) w.heap.size rfl (.tmp 28) (.tmp 30) 42 3 (.int .i64 0) 8 rfl Try.underlying42 infoI rfl (by decide) (by decide) _ l x [.int .i64 x] (fun _ => True) (fun _ => False) rfl rfl rfl (fun _ hk => hk.elim) (fun _ _ => trivial) HR1.out HB1.out HB1.out.size (by have := HL.out; omega) ?_); intro v2 w2 hR2 hB2 hg2 hat2; obtain ⟨A2, c2, rfl, hc2, hC2, hb2⟩ := own_slice hR2; have H2 := H.out.after hB2; have c0' := H2.c0; have f0' := H2.f0; have HF := Aside0.mk (And.intro hB2 (And.intro H2 (And.intro hC2 (And.intro hc2 hb2)))); clear hR2 hB2 hg2 hat2 H2 hC2 hc2 hb2))
  rw [show l.length + 1 = (l ++ [x]).length by simp]
  exact bodyPost_ret (v := .bool true) (by simp [results, Try.results15, go_sem]) rfl ⟨rfl, (Keep.of_below HF.out.1).trans (keep_miss _), A2, c2, HF.out.2.1.put HF.out.2.2.1 HF.out.2.2.2.1 (fun ad hA => by have := HF.out.2.2.2.2 ad hA; have := H.out.lr; omega)⟩
theorem rtake_none {w : World} {r : Nat} {room m : Int} (h : Rq w r [] room m) : Calls Try.prog 17 #[.pointer (some ⟨r, 0, none⟩)] w fun e w' => e = .returned (.tuple #[.int .i64 0, .bool false]) ∧ w' = w := by
  obtain ⟨A, c, h⟩ := h
  have c0 := h.c0
  rw [List.length_nil] at c0
  go_enter Try.func17, Try.ntmps17
  go_wp2_with fail
  exact bodyPost_ret (v := .tuple #[.int .i64 0, .bool false]) (by simp [results, Try.results17, go_sem]) rfl ⟨rfl, rfl⟩
set_option maxHeartbeats 4000000 in
theorem rtake_some {w : World} {r : Nat} {l : List Int} {room m : Int} (h : Rq w r l room m) (hp : 0 < l.length) (hl : l.length ≤ 2000) : Calls Try.prog 17 #[.pointer (some ⟨r, 0, none⟩)] w fun e w' => e = .returned (.tuple #[.int .i64 (rd l 0), .bool true]) ∧ Keep w w' r r ∧ Rq w' r (l.drop 1) room m := by
  obtain ⟨A, c, h⟩ := h
  have c0 := h.c0
  have b0 : ((l.length : Int) == 0) = false := beq_eq_false_iff_ne.2 (by omega)
  obtain ⟨ad, ead, hc⟩ := Kd.at_int h.C 0 (by omega) (by omega)
  have hc1 : w.cell? ad = some (.int .i64 (rd l 0)) := by simpa [Addr.add] using hc
  subst ead
  have q0 : ((0 : Int) < (l.length : Int)) = True := eq_true (by omega)
  have q1 : (0 < l.length) = True := eq_true hp
  have cA : ∀ (o : Obj), (w.alloc o).cell? ⟨r, 0, none⟩ = some (.slice (some ad) l.length c) := fun o => (h.after ((Below.refl _ w).alloc (Nat.le_refl _) o)).c0
  obtain ⟨A', k, c', hrun, hC', hkc, hk⟩ := cut_to (some ad) c l 1 w h.C h.hc (by omega) (by omega)
  have hk2 : k ≤ 2000 := by rw [hk, List.length_drop]; omega
  have hC2 : Kd.C (Kd.int .i64) w A' k (l.drop 1) := hC'
  have H := Aside0.mk h
  have HL := Aside0.mk (And.intro hC2 (And.intro hk2 hk))
  clear h hl hp hC' hkc hk hk2 hC2
  go_enter Try.func17, Try.ntmps17
  go_wp2_with
    (at_builtin; go_loud (refine Kd.R_append_row (Value.int .i64) (0 : Int) (h1 := fun _ => rfl) (w0 := w) w.heap.size rfl (.tmp 18) (.tmp 23) 42 3 (.int .i64 0) 8 rfl Try.underlying42 infoI rfl (by decide) (.slice (some ⟨w.heap.size, 0, none⟩) 0 0) [] (l.drop 1) A' k c' (fun _ => True) rfl rfl (fun _ _ => trivial) (Kd.R_of_own (own_lit w w.heap.size 3 .i64 [] (Nat.le_refl _) (by simp)) (fun _ _ => trivial)) (Kd.C_below HL.out.1 ((Below.refl _ w).alloc (Nat.le_refl _) _)) ((Below.refl _ w).alloc (Nat.le_refl _) _) (by simp) (by have := HL.out.2.1; simp; omega) ?_); intro v1 w1 hR1 hB1 hg1 hat1; rw [List.nil_append] at hR1; obtain ⟨A2, c2, rfl, hc2, hC2, hb2⟩ := own_slice hR1; have H2 := H.out.after hB1; have c0' := H2.c0; have f0' := H2.f0; have HF := Aside0.mk (And.intro hB1 (And.intro H2 (And.intro hC2 (And.intro hc2 hb2)))); clear hR1 hB1 hg1 hat1 H2 hC2 hc2 hb2)
  rw [show l.length - 1 = (l.drop 1).length by rw [List.length_drop]]
  exact bodyPost_ret (v := .tuple #[.int .i64 (rd l 0), .bool true]) (by simp [results, Try.results17, go_sem]) rfl ⟨rfl, (Keep.of_below HF.out.1).trans (keep_miss _), A2, c2, HF.out.2.1.put HF.out.2.2.1 HF.out.2.2.2.1 (fun ad hA => by have := HF.out.2.2.2.2 ad hA; have := H.out.lr; omega)⟩
/-- The reference's Put, Take and Push as the program's: by the list, the room and the count. -/
theorem rput_calls {w : World} {r : Nat} {l : List Int} {cap : Nat} {m : Int} (h : Rq w r l (cap : Int) m) (x : Int) (hl : l.length ≤ 2000) : Calls Try.prog 15 #[.pointer (some ⟨r, 0, none⟩), .int .i64 x] w fun e w' => e = .returned (.bool (decide (l.length < cap))) ∧ Keep w w' r r ∧ Rq w' r (qp cap l x) (cap : Int) (qm cap l m) := by
  unfold qp qm
  by_cases hr : l.length < cap
  · rw [if_pos hr, if_pos hr, decide_eq_true hr]
    exact rput_room h x (by omega) hl
  · rw [if_neg hr, if_neg hr, decide_eq_false hr]
    have e : IntKind.wrap .i64 (m + 1) = wrap64 (m + 1) := IntWalk.i64_left _
    rw [e]
    exact rput_full h x (by omega)
theorem rtake_calls {w : World} {r : Nat} {l : List Int} {room m : Int} (h : Rq w r l room m) (hl : l.length ≤ 2000) : Calls Try.prog 17 #[.pointer (some ⟨r, 0, none⟩)] w fun e w' => e = .returned (.tuple #[.int .i64 (l.headD 0), .bool (decide (0 < l.length))]) ∧ Keep w w' r r ∧ Rq w' r l.tail room m := by
  rcases l with _ | ⟨y, l⟩
  · refine (rtake_none h).mono ?_
    rintro e w' ⟨rfl, rfl⟩
    exact ⟨rfl, Keep.refl _ _ _, h⟩
  · have h1 := rtake_some h (by simp) hl
    have e : rd (y :: l) 0 = y := by simp [rd]
    rw [e] at h1
    exact h1
set_option maxHeartbeats 4000000 in
theorem rpush_calls {w : World} {r : Nat} {l : List Int} {cap : Nat} {m : Int} (h : Rq w r l (cap : Int) m) (hlc : l.length ≤ cap) (hl : l.length ≤ 1999) (x : Int) : Calls Try.prog 19 #[.pointer (some ⟨r, 0, none⟩), .int .i64 x] w fun e w' => e = .returned (.tuple #[.int .i64 (pushV cap l x), .bool (pushB cap l)]) ∧ Keep w w' r r ∧ Rq w' r (pushL cap l x) (cap : Int) m := by
  obtain ⟨A, c, h0⟩ := h
  have c0 := h0.c0
  have c1 := h0.c1
  have H := Aside0.mk (show Rq w r l (cap : Int) m from ⟨A, c, h0⟩)
  have HD := Aside0.mk (fun n => (show Rq (w.drewN n) r l (cap : Int) m from ⟨A, c, h0.after (drawn_b w n)⟩))
  clear h0
  unfold pushV pushB pushL
  by_cases hc : cap = 0
  · rw [if_pos hc, if_pos hc, decide_eq_true (Or.inl hc)]
    subst hc
    rw [show ((0 : Nat) : Int) = 0 from rfl] at c1
    go_enter Try.func19, Try.ntmps19
    go_wp2_with fail
    exact bodyPost_ret (v := .tuple #[.int .i64 x, .bool true]) (by simp [results, Try.results19, go_sem]) rfl ⟨rfl, Keep.refl _ _ _, H.out⟩
  · rw [if_neg hc, if_neg hc]
    have b0 : ((cap : Int) == 0) = false := beq_eq_false_iff_ne.2 (by omega)
    by_cases hf : l.length = cap
    · rw [if_pos hf, if_pos hf, decide_eq_true (Or.inr hf)]
      have d0 : decide ((l.length : Int) < (cap : Int)) = false := decide_eq_false (by omega)
      have d1 : decide (l.length < cap) = false := decide_eq_false (by omega)
      have e2 : decide ((l.tail).length < cap) = true := decide_eq_true (by rw [List.length_tail]; omega)
      have e3 : qp cap l.tail x = l.tail ++ [x] := by unfold qp; rw [if_pos (of_decide_eq_true e2)]
      have e4 : qm cap l.tail m = m := by unfold qm; rw [if_pos (of_decide_eq_true e2)]
      have HL := Aside0.mk (And.intro hl (show l.tail.length ≤ 2000 by rw [List.length_tail]; omega))
      clear hc hf hlc hl
      go_enter Try.func19, Try.ntmps19
      go_wp2
      repeat (go_quiet (fail); try go_wp2_with first | (go_at_call 17; refine (rtake_calls (HD.out _) (by have := HL.out.1; omega)).mono ?_; rintro _ w1 ⟨rfl, k1, h1⟩) | (go_at_call 15; refine (rput_calls h1 x HL.out.2).mono ?_; rw [e2, e3, e4]; rintro _ w2 ⟨rfl, k2, h2⟩))
      exact bodyPost_ret (v := .tuple #[.int .i64 (l.headD 0), .bool true]) (by simp [results, Try.results19, go_sem]) rfl ⟨rfl, ((Keep.of_below (drawn_b w _)).trans k1).trans k2, h2⟩
    · rw [if_neg hf, if_neg hf, decide_eq_false (by omega)]
      have d0 : decide ((l.length : Int) < (cap : Int)) = true := decide_eq_true (by omega)
      have d1 : decide (l.length < cap) = true := decide_eq_true (by omega)
      have e3 : qp cap l x = l ++ [x] := by unfold qp; rw [if_pos (of_decide_eq_true d1)]
      have e4 : qm cap l m = m := by unfold qm; rw [if_pos (of_decide_eq_true d1)]
      have HL := Aside0.mk hl
      clear hc hf hlc hl
      go_enter Try.func19, Try.ntmps19
      go_wp2
      repeat (go_quiet (fail); try go_wp2_with (go_at_call 15; refine (rput_calls (HD.out _) x (by have := HL.out; omega)).mono ?_; rw [e3, e4]; rintro _ w2 ⟨rfl, k2, h2⟩))
      exact bodyPost_ret (v := .tuple #[.int .i64 0, .bool false]) (by simp [results, Try.results19, go_sem]) rfl ⟨rfl, (Keep.of_below (drawn_b w _)).trans k2, h2⟩

theorem c_keep2 {w w' : World} {A : Option Addr} {n : Nat} {l : List Int} {q g : Nat} (h : Kd.C (Kd.int .i64) w A n l) (hk : Keep w w' q g) (hf : ∀ ad, A = some ad → ad.block ≠ q ∧ ad.block ≠ g) : Kd.C (Kd.int .i64) w' A n l := by
  have h1 := Kd.reads_of_C (d := (0 : Int)) h
  refine Kd.C_of_reads (d := (0 : Int)) (h1 := fun _ => rfl) ⟨h1.1, h1.2.1, fun hn => ?_⟩
  obtain ⟨ad, e, hc⟩ := h1.2.2 hn
  refine ⟨ad, e, fun j hj => ?_⟩
  have h2 := hc j hj
  have hlt := World.block_lt_of_cell? _ _ h2
  have hb : (ad.add j).block = ad.block := by unfold Addr.add; split <;> rfl
  exact (World.cell?_of_block (w := w) (hk.block _ hlt (by rw [hb]; exact (hf ad e).1) (by rw [hb]; exact (hf ad e).2))).trans h2
theorem Rq.keep {w w' : World} {r q g : Nat} {l : List Int} {room m : Int} (h : Rq w r l room m) (hk : Keep w w' q g) (hq : q < r) (hg : g < r) : Rq w' r l room m := by
  obtain ⟨A, c, h⟩ := h
  exact ⟨A, c, h.eq hk.size (hk.block r h.lr (by omega) (by omega)) (c_keep2 h.C hk (fun ad hA => by have := h.far ad hA; omega))⟩
theorem Rq.after {w w' : World} {r : Nat} {l : List Int} {room m : Int} (h : Rq w r l room m) (hb : Below w.heap.size w w') : Rq w' r l room m := by
  obtain ⟨A, c, h⟩ := h
  exact ⟨A, c, h.after hb⟩

end Go.Proofs.Ytccnfckogcdpcaa.X

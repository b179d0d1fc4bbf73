/- A queue in memory: a block with a channel and a count; each of its functions by a contract. Conditions: none. -/
import Derived.Test.YtccnfckogcdpcaaXPut
import Derived.Below
import Derived.Deep.Draws
import Derived.OwnWalk
import Derived.ArgAppend
import Derived.Tactics
import Derived.WalkKit
import Derived.WalkLawsBesides
import Derived.WalkSpells
import Derived.KernelRfl
import Derived.RowKit3
import Derived.LoopTactic
import Derived.Outline
import Derived.OneCell
import Derived.Deep.LoopGhost
import Derived.Deep.QuietTactic
import Derived.BigQuiet
import Derived.RegionTactic
import Derived.Deep.RegionHeld3
import Derived.WideLaws
import Derived.Laws.Rows
import Derived.RowKit
import Derived.Test.YtccnfckogcdpcaaWWords
namespace Go.Proofs.Ytccnfckogcdpcaa.X
open Go.Conc Go.RowKit Go.Proofs.YtccnfckogcdpcaaW.PrintWords
set_option linter.unusedVariables false
set_option linter.unusedSimpArgs false

/-- All but the blocks q and g is as it was. -/
structure Keep (w w' : World) (q g : Nat) : Prop where
  os : w'.os = w.os
  tape : w'.tape = w.tape
  output : w'.output = w.output
  size : w.heap.size ≤ w'.heap.size
  block : ∀ k, k < w.heap.size → k ≠ q → k ≠ g → w'.heap[k]? = w.heap[k]?
theorem Keep.refl (w : World) (q g : Nat) : Keep w w q g := ⟨rfl, rfl, rfl, Nat.le_refl _, fun _ _ _ _ => rfl⟩
theorem Keep.trans {a b c : World} {q g : Nat} (h : Keep a b q g) (k : Keep b c q g) : Keep a c q g :=
  ⟨k.os.trans h.os, k.tape.trans h.tape, k.output.trans h.output, Nat.le_trans h.size k.size, fun i hi h1 h2 => (k.block i (Nat.lt_of_lt_of_le hi h.size) h1 h2).trans (h.block i hi h1 h2)⟩
theorem Keep.of_below {w w' : World} {q g : Nat} (h : Below w.heap.size w w') : Keep w w' q g := ⟨h.os, h.tape, h.output, h.size, fun k hk _ _ => h.block k hk⟩
theorem Keep.below {B : Nat} {a w w' : World} {q g : Nat} (h : Below B a w) (k : Keep w w' q g) (hB : B ≤ w.heap.size) (hq : B ≤ q) (hg : B ≤ g) : Below B a w' :=
  ⟨k.os.trans h.os, k.tape.trans h.tape, k.output.trans h.output, Nat.le_trans h.size k.size, fun i hi => (k.block i (by omega) (by omega) (by omega)).trans (h.block i hi)⟩

/-- At block q lie the channel's address and how many were missed; the channel lies at block g, with a room and what waits. -/
structure Qu (w : World) (q g cap : Nat) (buf : List Value) (m : Int) : Prop where
  c0 : w.cell? ⟨q, 0, none⟩ = some (.chan (some g))
  c1 : w.cell? ⟨q, 1, none⟩ = some (.int .i64 m)
  f0 : w.frozen? ⟨q, 0, none⟩ = false
  f1 : w.frozen? ⟨q, 1, none⟩ = false
  ch : ∃ s r, w.heap[g]? = some (.chan cap buf.toArray false s r false)
  ne : q ≠ g
  lq : q < w.heap.size
  lg : g < w.heap.size
theorem Qu.eq {w w' : World} {q g cap : Nat} {buf : List Value} {m : Int} (h : Qu w q g cap buf m) (hs : w.heap.size ≤ w'.heap.size) (hq : w'.heap[q]? = w.heap[q]?) (hg : w'.heap[g]? = w.heap[g]?) : Qu w' q g cap buf m where
  c0 := (World.cell?_of_block (w := w) hq).trans h.c0
  c1 := (World.cell?_of_block (w := w) hq).trans h.c1
  f0 := (World.frozen?_of_block (w := w) hq).trans h.f0
  f1 := (World.frozen?_of_block (w := w) hq).trans h.f1
  ch := by obtain ⟨s, r, h1⟩ := h.ch; exact ⟨s, r, hg.trans h1⟩
  ne := h.ne
  lq := Nat.lt_of_lt_of_le h.lq hs
  lg := Nat.lt_of_lt_of_le h.lg hs
theorem Qu.below {B : Nat} {w w' : World} {q g cap : Nat} {buf : List Value} {m : Int} (h : Qu w q g cap buf m) (hb : Below B w w') (hq : q < B) (hg : g < B) : Qu w' q g cap buf m := h.eq hb.size (hb.block q hq) (hb.block g hg)
theorem Qu.after {w w' : World} {q g cap : Nat} {buf : List Value} {m : Int} (h : Qu w q g cap buf m) (hb : Below w.heap.size w w') : Qu w' q g cap buf m := h.below hb h.lq h.lg
theorem Qu.keep {w w' : World} {q g cap q2 g2 : Nat} {buf : List Value} {m : Int} (h : Qu w q g cap buf m) (hk : Keep w w' q2 g2) (h1 : q ≠ q2) (h2 : q ≠ g2) (h3 : g ≠ q2) (h4 : g ≠ g2) : Qu w' q g cap buf m := h.eq hk.size (hk.block q h.lq h1 h2) (hk.block g h.lg h3 h4)
theorem Qu.drew {w : World} {q g cap : Nat} {buf : List Value} {m : Int} (h : Qu w q g cap buf m) : Qu w.drew q g cap buf m := h.eq (Nat.le_refl _) rfl rfl
theorem Qu.drewN {w : World} {q g cap : Nat} {buf : List Value} {m : Int} (h : Qu w q g cap buf m) (n : Nat) : Qu (w.drewN n) q g cap buf m := h.eq (Nat.le_refl _) rfl rfl
theorem keep_miss {w : World} {q g i : Nat} (v : Value) : Keep w (w.setCell ⟨q, i, none⟩ v) q g := by
  have h := (Below.refl 0 w).setCell (p := ⟨q, i, none⟩) (Nat.zero_le _) v
  exact ⟨h.os, h.tape, h.output, h.size, fun k hk h1 h2 => Below.heap_setCell w _ v k h1⟩
theorem keep_chan {w : World} {q g cap : Nat} (buf : Array Value) (cl : Bool) (s r : Nat) (tm : Bool) : Keep w (w.setChan g cap buf cl s r tm) q g := by
  have h := below_setChan (Below.refl 0 w) (Nat.zero_le g) cap buf cl s r tm
  exact ⟨h.os, h.tape, h.output, h.size, fun k hk h1 h2 => by simp only [World.setChan]; rw [Array.getElem?_setIfInBounds_ne (by omega)]⟩
theorem size_setCell (w : World) (p : Addr) (v : Value) : (w.setCell p v).heap.size = w.heap.size := by simp [World.setCell]
theorem Qu.miss {w : World} {q g cap : Nat} {buf : List Value} {m : Int} (h : Qu w q g cap buf m) (d : Int) : Qu (w.setCell ⟨q, 1, none⟩ (.int .i64 d)) q g cap buf d where
  c0 := (World.cell?_setCell_other _ _ _ _ (by simp)).trans h.c0
  c1 := World.cell?_setCell_same _ _ _ h.c1
  f0 := by simpa using h.f0
  f1 := by simpa using h.f1
  ch := by obtain ⟨s, r, h1⟩ := h.ch; exact ⟨s, r, (Below.heap_setCell w _ _ g h.ne.symm).trans h1⟩
  ne := h.ne
  lq := by rw [size_setCell]; exact h.lq
  lg := by rw [size_setCell]; exact h.lg
theorem Qu.chan {w : World} {q g cap : Nat} {buf : List Value} {m : Int} (h : Qu w q g cap buf m) (buf' : List Value) (s r : Nat) : Qu (w.setChan g cap buf'.toArray false s r false) q g cap buf' m := by
  have hq : (w.setChan g cap buf'.toArray false s r false).heap[q]? = w.heap[q]? := by simp only [World.setChan]; rw [Array.getElem?_setIfInBounds_ne (Ne.symm h.ne)]
  exact ⟨(World.cell?_of_block (w := w) hq).trans h.c0, (World.cell?_of_block (w := w) hq).trans h.c1, (World.frozen?_of_block (w := w) hq).trans h.f0, (World.frozen?_of_block (w := w) hq).trans h.f1,
    ⟨s, r, heap_setChan w g cap _ false s r false h.lg⟩, h.ne, by rw [size_setChan]; exact h.lq, by rw [size_setChan]; exact h.lg⟩

/-- What Put does with a list and a count. -/
def qp {α : Type} (cap : Nat) (l : List α) (x : α) : List α := if l.length < cap then l ++ [x] else l
def qm {α : Type} (cap : Nat) (l : List α) (m : Int) : Int := if l.length < cap then m else IntKind.wrap .i64 (m + 1)

theorem put_calls {w : World} {q g cap : Nat} {l : List Int} {m : Int} (h : Qu w q g cap (l.map (Value.int .i64)) m) (x : Int) :
    Calls Try.prog 14 #[.pointer (some ⟨q, 0, none⟩), .int .i64 x] w fun e w' => e = .returned (.bool (decide (l.length < cap))) ∧ Keep w w' q g ∧ Qu w' q g cap ((qp cap l x).map (Value.int .i64)) (qm cap l m) := by
  obtain ⟨s, r, hc⟩ := h.ch
  by_cases hr : l.length < cap
  · refine (put_room q g cap _ s r false m x w h.c0 hc (by simpa using hr)).mono ?_
    rintro e w' ⟨rfl, rfl⟩
    refine ⟨by rw [decide_eq_true hr], keep_chan _ _ _ _ _, ?_⟩
    unfold qp qm
    rw [if_pos hr, if_pos hr, List.push_toArray, List.map_append, List.map_singleton]
    exact h.chan _ _ _
  · refine (put_full q g cap _ s r false m x w h.c0 hc (by simpa using hr) h.c1 h.f1).mono ?_
    rintro e w' ⟨rfl, rfl⟩
    refine ⟨by rw [decide_eq_false hr], keep_miss _, ?_⟩
    unfold qp qm
    rw [if_neg hr, if_neg hr]
    exact h.miss _

theorem puts_calls {w : World} {q g cap : Nat} {l : List ByteArray} {m : Int} (h : Qu w q g cap (l.map (Value.string)) m) (x : ByteArray) :
    Calls Try.prog 8 #[.pointer (some ⟨q, 0, none⟩), .string x] w fun e w' => e = .returned (.bool (decide (l.length < cap))) ∧ Keep w w' q g ∧ Qu w' q g cap ((qp cap l x).map (Value.string)) (qm cap l m) := by
  obtain ⟨s, r, hc⟩ := h.ch
  by_cases hr : l.length < cap
  · refine (puts_room q g cap _ s r false m x w h.c0 hc (by simpa using hr)).mono ?_
    rintro e w' ⟨rfl, rfl⟩
    refine ⟨by rw [decide_eq_true hr], keep_chan _ _ _ _ _, ?_⟩
    unfold qp qm
    rw [if_pos hr, if_pos hr, List.push_toArray, List.map_append, List.map_singleton]
    exact h.chan _ _ _
  · refine (puts_full q g cap _ s r false m x w h.c0 hc (by simpa using hr) h.c1 h.f1).mono ?_
    rintro e w' ⟨rfl, rfl⟩
    refine ⟨by rw [decide_eq_false hr], keep_miss _, ?_⟩
    unfold qp qm
    rw [if_neg hr, if_neg hr]
    exact h.miss _

theorem take_calls {w : World} {q g cap : Nat} {l : List Int} {m : Int} (h : Qu w q g cap (l.map (Value.int .i64)) m) :
    Calls Try.prog 16 #[.pointer (some ⟨q, 0, none⟩)] w fun e w' => e = .returned (.tuple #[Value.int .i64 (l.headD 0), .bool (decide (0 < l.length))]) ∧ Keep w w' q g ∧ Qu w' q g cap (l.tail.map (Value.int .i64)) m := by
  obtain ⟨s, r, hc⟩ := h.ch
  rcases l with _ | ⟨x, l⟩
  · refine (take_none q g cap #[] s r false 0 w h.c0 hc).mono ?_
    rintro e w' ⟨rfl, rfl⟩
    exact ⟨rfl, Keep.refl _ _ _, h⟩
  · refine (take_some q g cap _ s r false x w h.c0 hc (by simp) (by simp)).mono ?_
    rintro e w' ⟨rfl, rfl⟩
    refine ⟨rfl, keep_chan _ _ _ _ _, ?_⟩
    have e : (List.map (Value.int .i64) (x :: l)).toArray.extract 1 (List.map (Value.int .i64) (x :: l)).toArray.size = (l.map (Value.int .i64)).toArray := by
      simp only [List.map_cons, List.extract_toArray, List.size_toArray, List.length_cons, List.length_map, List.extract_eq_take_drop, List.drop_succ_cons, List.drop_zero, Nat.add_sub_cancel]
      rw [List.take_of_length_le (by simp)]
    rw [e]
    exact h.chan _ _ _

theorem takes_calls {w : World} {q g cap : Nat} {l : List ByteArray} {m : Int} (h : Qu w q g cap (l.map (Value.string)) m) :
    Calls Try.prog 11 #[.pointer (some ⟨q, 0, none⟩)] w fun e w' => e = .returned (.tuple #[Value.string (l.headD {data := #[]}), .bool (decide (0 < l.length))]) ∧ Keep w w' q g ∧ Qu w' q g cap (l.tail.map (Value.string)) m := by
  obtain ⟨s, r, hc⟩ := h.ch
  rcases l with _ | ⟨x, l⟩
  · refine (takes_none q g cap #[] s r false {data := #[]} w h.c0 hc).mono ?_
    rintro e w' ⟨rfl, rfl⟩
    exact ⟨rfl, Keep.refl _ _ _, h⟩
  · refine (takes_some q g cap _ s r false x w h.c0 hc (by simp) (by simp)).mono ?_
    rintro e w' ⟨rfl, rfl⟩
    refine ⟨rfl, keep_chan _ _ _ _ _, ?_⟩
    have e : (List.map (Value.string) (x :: l)).toArray.extract 1 (List.map (Value.string) (x :: l)).toArray.size = (l.map (Value.string)).toArray := by
      simp only [List.map_cons, List.extract_toArray, List.size_toArray, List.length_cons, List.length_map, List.extract_eq_take_drop, List.drop_succ_cons, List.drop_zero, Nat.add_sub_cancel]
      rw [List.take_of_length_le (by simp)]
    rw [e]
    exact h.chan _ _ _

theorem len_calls {w : World} {q g cap : Nat} {buf : List Value} {m : Int} (h : Qu w q g cap buf m) : Calls Try.prog 20 #[.pointer (some ⟨q, 0, none⟩)] w fun e w' => e = .returned (.int .i64 (buf.length : Nat)) ∧ w' = w := by
  obtain ⟨s, r, hc⟩ := h.ch
  have c0 := h.c0
  have c1 := h.c1
  have hl := run_len_chan (P := Try.prog) (w := w) 53 3 Try.underlying53 hc
  go_enter Try.func20, Try.ntmps20
  go_wp2_with fail
  exact bodyPost_ret (v := .int .i64 (buf.length : Nat)) (by simp [results, Try.results20, go_sem]) rfl ⟨rfl, rfl⟩

theorem lens_calls {w : World} {q g cap : Nat} {buf : List Value} {m : Int} (h : Qu w q g cap buf m) : Calls Try.prog 9 #[.pointer (some ⟨q, 0, none⟩)] w fun e w' => e = .returned (.int .i64 (buf.length : Nat)) ∧ w' = w := by
  obtain ⟨s, r, hc⟩ := h.ch
  have c0 := h.c0
  have c1 := h.c1
  have hl := run_len_chan (P := Try.prog) (w := w) 50 3 Try.underlying50 hc
  go_enter Try.func9, Try.ntmps9
  go_wp2_with fail
  exact bodyPost_ret (v := .int .i64 (buf.length : Nat)) (by simp [results, Try.results9, go_sem]) rfl ⟨rfl, rfl⟩

theorem room_calls {w : World} {q g cap : Nat} {buf : List Value} {m : Int} (h : Qu w q g cap buf m) : Calls Try.prog 24 #[.pointer (some ⟨q, 0, none⟩)] w fun e w' => e = .returned (.int .i64 (cap : Nat)) ∧ w' = w := by
  obtain ⟨s, r, hc⟩ := h.ch
  have c0 := h.c0
  have c1 := h.c1
  have hl := run_cap_chan (P := Try.prog) (w := w) 53 3 Try.underlying53 hc
  go_enter Try.func24, Try.ntmps24
  go_wp2_with fail
  exact bodyPost_ret (v := .int .i64 (cap : Nat)) (by simp [results, Try.results24, go_sem]) rfl ⟨rfl, rfl⟩

theorem missed_calls {w : World} {q g cap : Nat} {buf : List Value} {m : Int} (h : Qu w q g cap buf m) : Calls Try.prog 21 #[.pointer (some ⟨q, 0, none⟩)] w fun e w' => e = .returned (.int .i64 m) ∧ w' = w := by
  obtain ⟨s, r, hc⟩ := h.ch
  have c0 := h.c0
  have c1 := h.c1
  go_enter Try.func21, Try.ntmps21
  go_wp2_with fail
  exact bodyPost_ret (v := .int .i64 m) (by simp [results, Try.results21, go_sem]) rfl ⟨rfl, rfl⟩

theorem misseds_calls {w : World} {q g cap : Nat} {buf : List Value} {m : Int} (h : Qu w q g cap buf m) : Calls Try.prog 10 #[.pointer (some ⟨q, 0, none⟩)] w fun e w' => e = .returned (.int .i64 m) ∧ w' = w := by
  obtain ⟨s, r, hc⟩ := h.ch
  have c0 := h.c0
  have c1 := h.c1
  go_enter Try.func10, Try.ntmps10
  go_wp2_with fail
  exact bodyPost_ret (v := .int .i64 m) (by simp [results, Try.results10, go_sem]) rfl ⟨rfl, rfl⟩

def capOf (n : Int) : Nat := (max 0 (min n 1024)).toNat

theorem info3_new : ∃ i, Try.prog.info? 3 = some i ∧ (i.bytes = 8 ∨ i.bytes = 16) := by
  have h : (Try.prog.info? 3).map (·.bytes) = some 8 ∨ (Try.prog.info? 3).map (·.bytes) = some 16 := .inl (by kernel_rfl)
  rcases h with h | h
  · obtain ⟨i, hi, hb⟩ := Option.map_eq_some_iff.1 h
    exact ⟨i, hi, .inl hb⟩
  · obtain ⟨i, hi, hb⟩ := Option.map_eq_some_iff.1 h
    exact ⟨i, hi, .inr hb⟩
theorem new_calls (n : Int) (w : World) : Calls Try.prog 12 #[.int .i64 n] w fun e w' => ∃ q g, w.heap.size ≤ q ∧ w.heap.size ≤ g ∧ e = .returned (.pointer (some ⟨q, 0, none⟩)) ∧ Qu w' q g (capOf n) [] 0 ∧ Below w.heap.size w w' := by
  obtain ⟨i, hi, hb⟩ := info3_new
  have hmk := run_makeChan (P := Try.prog) (w := w) Try.underlying53 hi .i64 (capOf n) (by unfold capOf; omega) (by unfold capOf; rcases hb with hb | hb <;> rw [hb] <;> omega)
  have hq : Qu ((w.alloc (.chan (capOf n) #[] false 0 0 false)).alloc (.cells #[.chan (some w.heap.size), .int .i64 0] 55)) (w.heap.size + 1) w.heap.size (capOf n) [] 0 ∧ Below w.heap.size w ((w.alloc (.chan (capOf n) #[] false 0 0 false)).alloc (.cells #[.chan (some w.heap.size), .int .i64 0] 55)) := by
    refine ⟨⟨by simp, by simp, by simp, by simp, ⟨0, 0, ?_⟩, by omega, by simp, by simp; omega⟩, (((Below.refl _ w).alloc (Nat.le_refl _) _).alloc (by simp) _)⟩
    rw [Below.heap_alloc _ _ _ (by simp)]
    exact heap_alloc_new w _
  rcases (show 1024 < n ∨ n < 0 ∨ (0 < n ∧ n < 1024) ∨ n = 0 ∨ n = 1024 by omega) with h | h | h | rfl | rfl
  all_goals first
    | rw [show ((capOf n : Nat) : Int) = 1024 by unfold capOf; omega] at hmk
    | rw [show ((capOf n : Nat) : Int) = 0 by unfold capOf; omega] at hmk
    | rw [show ((capOf n : Nat) : Int) = n by unfold capOf; omega] at hmk
    | rw [show ((capOf 0 : Nat) : Int) = 0 by unfold capOf; omega] at hmk
    | rw [show ((capOf 1024 : Nat) : Int) = 1024 by unfold capOf; omega] at hmk
  all_goals (go_enter Try.func12, Try.ntmps12; go_wp2_with fail; skip)
  all_goals (first | omega | exact bodyPost_ret (v := .pointer (some ⟨w.heap.size + 1, 0, none⟩)) (by simp [results, Try.results12, go_sem]) rfl ⟨_, _, Nat.le_succ _, Nat.le_refl _, rfl, hq.1, hq.2⟩)

theorem info9_news : ∃ i, Try.prog.info? 9 = some i ∧ (i.bytes = 8 ∨ i.bytes = 16) := by
  have h : (Try.prog.info? 9).map (·.bytes) = some 8 ∨ (Try.prog.info? 9).map (·.bytes) = some 16 := .inr (by kernel_rfl)
  rcases h with h | h
  · obtain ⟨i, hi, hb⟩ := Option.map_eq_some_iff.1 h
    exact ⟨i, hi, .inl hb⟩
  · obtain ⟨i, hi, hb⟩ := Option.map_eq_some_iff.1 h
    exact ⟨i, hi, .inr hb⟩
theorem news_calls (n : Int) (w : World) : Calls Try.prog 7 #[.int .i64 n] w fun e w' => ∃ q g, w.heap.size ≤ q ∧ w.heap.size ≤ g ∧ e = .returned (.pointer (some ⟨q, 0, none⟩)) ∧ Qu w' q g (capOf n) [] 0 ∧ Below w.heap.size w w' := by
  obtain ⟨i, hi, hb⟩ := info9_news
  have hmk := run_makeChan (P := Try.prog) (w := w) Try.underlying50 hi .i64 (capOf n) (by unfold capOf; omega) (by unfold capOf; rcases hb with hb | hb <;> rw [hb] <;> omega)
  have hq : Qu ((w.alloc (.chan (capOf n) #[] false 0 0 false)).alloc (.cells #[.chan (some w.heap.size), .int .i64 0] 52)) (w.heap.size + 1) w.heap.size (capOf n) [] 0 ∧ Below w.heap.size w ((w.alloc (.chan (capOf n) #[] false 0 0 false)).alloc (.cells #[.chan (some w.heap.size), .int .i64 0] 52)) := by
    refine ⟨⟨by simp, by simp, by simp, by simp, ⟨0, 0, ?_⟩, by omega, by simp, by simp; omega⟩, (((Below.refl _ w).alloc (Nat.le_refl _) _).alloc (by simp) _)⟩
    rw [Below.heap_alloc _ _ _ (by simp)]
    exact heap_alloc_new w _
  rcases (show 1024 < n ∨ n < 0 ∨ (0 < n ∧ n < 1024) ∨ n = 0 ∨ n = 1024 by omega) with h | h | h | rfl | rfl
  all_goals first
    | rw [show ((capOf n : Nat) : Int) = 1024 by unfold capOf; omega] at hmk
    | rw [show ((capOf n : Nat) : Int) = 0 by unfold capOf; omega] at hmk
    | rw [show ((capOf n : Nat) : Int) = n by unfold capOf; omega] at hmk
    | rw [show ((capOf 0 : Nat) : Int) = 0 by unfold capOf; omega] at hmk
    | rw [show ((capOf 1024 : Nat) : Int) = 1024 by unfold capOf; omega] at hmk
  all_goals (go_enter Try.func7, Try.ntmps7; go_wp2_with fail; skip)
  all_goals (first | omega | exact bodyPost_ret (v := .pointer (some ⟨w.heap.size + 1, 0, none⟩)) (by simp [results, Try.results7, go_sem]) rfl ⟨_, _, Nat.le_succ _, Nat.le_refl _, rfl, hq.1, hq.2⟩)

end Go.Proofs.Ytccnfckogcdpcaa.X

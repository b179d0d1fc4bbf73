/- What the slots package's First, Count and List tell: contracts of mask, Has, below's iterator and of these three, walked by hand. Conditions: none. -/
import Derived.RangeFuncNested
import Derived.RangeFuncBox
import Derived.RangeFuncBound
import Derived.RangeFuncCalls
import Derived.RangeFuncLeaves
import Derived.Shelf.Abstract
import Derived.WalkKit
import Derived.OwnWalkIn
import Derived.TacticsInMore
import Derived.LoopNIn
import Derived.LoopIn
import Derived.Maps.AppendAt
import Derived.Outline
import Derived.Test.YtichbeeplpembaaProg
import Derived.Test.YtichbeeplpembaaWWords
namespace Go.Proofs.Ytichbeeplpembaa.X
open Go.RowKit Go.Shelf Go.Proofs.YtichbeeplpembaaW.PrintWords
attribute [local go_sem] Oper.semAt_some
set_option linter.unusedVariables false
set_option linter.unusedSimpArgs false

def maskN (i : Int) : Int := if i < 0 then 0 else if 32 ≤ i then 0 else 2 ^ i.toNat
def hasB (x i : Int) : Bool := Go.bits .and .i64 x (maskN i) != 0

set_option maxHeartbeats 400000 in
theorem mask_calls (i : Int) (w : World) : Calls Try.prog 22 #[.int .i64 i] w fun e w' => e = .returned (.int .i64 (maskN i)) ∧ w = w' := by
  by_cases h0 : i < 0
  · have hz : maskN i = 0 := by unfold maskN; rw [if_pos h0]
    rw [hz]; clear hz
    go_enter Try.func22, Try.ntmps22
    go_wp2
    go_ret
    exact ⟨rfl, rfl⟩
  by_cases h1 : 32 ≤ i
  · have hz : maskN i = 0 := by unfold maskN; rw [if_neg h0, if_pos h1]
    rw [hz]; clear hz
    go_enter Try.func22, Try.ntmps22
    go_wp2
    go_ret
    exact ⟨rfl, rfl⟩
  have hk : ∃ k : Nat, i = k ∧ k < 32 := ⟨i.toNat, by omega, by omega⟩
  obtain ⟨k, rfl, hk⟩ := hk
  have hz : maskN k = 2 ^ k := by unfold maskN; rw [if_neg h0, if_neg h1]; simp
  have hp : (2 : Int) ^ k = wrap64 (2 ^ k) := by
    have e : (2 : Nat) ^ k < 2 ^ 32 := Nat.pow_lt_pow_right (by decide) hk
    have e1 : (2 : Int) ^ k = ((2 ^ k : Nat) : Int) := by simp
    rw [e1]; generalize (2 : Nat) ^ k = p at *
    unfold wrap64; omega
  have HP := Aside0.mk (hz.trans hp)
  clear hz hp
  go_enter Try.func22, Try.ntmps22
  go_wp2
  go_ret
  refine ⟨?_, rfl⟩
  rw [HP.out]; simp

theorem has_calls (x i : Int) (w : World) : Calls Try.prog 8 #[.int .i64 x, .int .i64 i] w fun e w' => e = .returned (.bool (hasB x i)) ∧ w = w' := by
  go_enter Try.func8, Try.ntmps8
  go_wp2_with (go_at_call 22; refine (mask_calls _ _).mono ?_; rintro e w' ⟨rfl, rfl⟩)
  go_ret
  exact ⟨rfl, rfl⟩

def upto {α : Type} (f : Nat → α) (k : Nat) : List α := (List.range k).map f
theorem upto_succ {α : Type} (f : Nat → α) (k : Nat) : upto f (k + 1) = upto f k ++ [f k] := by simp [upto, List.range_succ]
theorem upto_length {α : Type} (f : Nat → α) (k : Nat) : (upto f k).length = k := by simp [upto]

/-- How many places are looked at. -/
def placesN (n : Int) : Nat := if n ≤ 0 then 0 else if n ≤ 32 then n.toNat else 32
theorem placesN_cases (n : Int) : (n ≤ 0 ∧ placesN n = 0) ∨ (n = (placesN n : Int) ∧ 0 < placesN n ∧ placesN n ≤ 32) ∨ (32 < n ∧ placesN n = 32) := by
  unfold placesN
  by_cases h : n ≤ 0
  · rw [if_pos h]; omega
  · rw [if_neg h]
    by_cases h2 : n ≤ 32
    · rw [if_pos h2]; omega
    · rw [if_neg h2]; omega

def Kp2 (b2 : Nat) (W W' : World) : Prop := W'.heap[b2]? = W.heap[b2]?

set_option maxRecDepth 100000 in
set_option maxHeartbeats 4000000 in
theorem below1_in (n : Nat) (hn : 3 ≤ n) (l b1 b2 c : Nat) (m x : Int) (hm : (m ≤ 0 ∧ c = 0) ∨ (m = (c : Int) ∧ 0 < c ∧ c ≤ 32) ∨ (32 < m ∧ c = 32)) (J Jx : List (Int × Bool) → World → Prop)
    (hY : ∀ pre y W, J pre W → pre.length < c → YieldAt Fence.wide (n - 1) Try.prog l #[.int .i64 y.1, .bool y.2] W fun e W' =>
      (e = .returned (.bool true) ∧ J (pre ++ [y]) W' ∧ Kp2 b2 W W') ∨ (e = .returned (.bool false) ∧ Jx (pre ++ [y]) W'))
    (W : World) (hB1 : Boxed W b1 3 (.int .i64 m)) (hB2 : Boxed W b2 3 (.int .i64 x)) (h0 : J [] W) :
    CallsIn Fence.wide n Try.prog 27 #[.func (.yield l) #[] #[], .pointer (some ⟨b1, 0, none⟩), .pointer (some ⟨b2, 0, none⟩)] W fun e W' => (∃ v, e = .returned v) ∧
      ((∃ ys, ys = upto (fun j => ((j : Int), hasB x j)) c ∧ J ys W') ∨ (∃ pre, (∃ k, k ≤ c ∧ pre = upto (fun j => ((j : Int), hasB x j)) k) ∧ Jx pre W')) := by
  have hc1 := hB1.cell
  rcases hm with ⟨hm, rfl⟩ | ⟨rfl, hm, hm2⟩ | ⟨hm, rfl⟩
  · refine callsIn_of_wp Try.func27 rfl trivial ?_ rfl
    simp only [Try.ntmps27, List.size_toArray, List.length_cons, List.length_nil, Nat.reduceAdd, Nat.reduceSub, Array.replicate_succ, Array.replicate_zero, List.push_toArray, List.append_toArray, List.nil_append, List.cons_append]
    gi_wp2
    gi_loopw [8] (fun i wr => ∃ k : Nat, k ≤ 0 ∧ i = .int .i64 k ∧ J (upto (fun j => ((j : Int), hasB x j)) k) wr ∧ wr.heap[b2]? = W.heap[b2]?)
      (fun i _ => 0 - (intOf i).toNat)
    case atStart => exact ⟨0, Nat.zero_le _, rfl, h0, rfl⟩
    case round =>
      obtain ⟨k, hk, rfl, hJs, hnx⟩ := hrel
      have hbx : Boxed wr b2 3 (.int .i64 x) := hnx.trans hB2
      have hcx := hbx.cell
      have hN := Aside0.mk hnx
      clear hnx hbx
      obtain rfl : k = 0 := by omega
      gi_wp2
      go_end0
      exact ⟨⟨_, rfl⟩, .inl ⟨_, rfl, hJs⟩⟩
  · refine callsIn_of_wp Try.func27 rfl trivial ?_ rfl
    simp only [Try.ntmps27, List.size_toArray, List.length_cons, List.length_nil, Nat.reduceAdd, Nat.reduceSub, Array.replicate_succ, Array.replicate_zero, List.push_toArray, List.append_toArray, List.nil_append, List.cons_append]
    gi_wp2
    gi_loopw [8] (fun i wr => ∃ k : Nat, k ≤ c ∧ i = .int .i64 k ∧ J (upto (fun j => ((j : Int), hasB x j)) k) wr ∧ wr.heap[b2]? = W.heap[b2]?)
      (fun i _ => c - (intOf i).toNat)
    case atStart => exact ⟨0, Nat.zero_le _, rfl, h0, rfl⟩
    case round =>
      obtain ⟨k, hk, rfl, hJs, hnx⟩ := hrel
      have hbx : Boxed wr b2 3 (.int .i64 x) := hnx.trans hB2
      have hcx := hbx.cell
      have hN := Aside0.mk hnx
      clear hnx hbx
      by_cases hlt : k < c
      · obtain ⟨fn, tmps, assign, body, hy, hR⟩ := hY _ ((k : Int), hasB x k) wr hJs (by rw [upto_length]; exact hlt)
        dsimp only at hy
        gi_wp2_with (refine ⟨trivial, fun _ => by omega, ?_⟩; gi_at_call 8; refine (callsIn_wide.2 (has_calls _ _ _)).mono ?_; rintro e w' ⟨rfl, rfl⟩)
        refine ⟨fun _ => by omega, hR.mono ?_⟩
        rintro e W3 (⟨rfl, hJ3, hk3⟩ | ⟨rfl, hJx3⟩)
        · gi_wp2
          go_roundw
          case rel => exact ⟨k + 1, by omega, by simp, by rw [upto_succ]; exact hJ3, hk3.trans hN.out⟩
          case measure => simp [intOf]; omega
        · gi_wp2
          refine bodyPost_ret (results_none rfl _ _ _) rfl ?_
          exact ⟨⟨_, rfl⟩, .inr ⟨_, ⟨k + 1, by omega, (upto_succ _ _).symm⟩, hJx3⟩⟩
      · obtain rfl : k = c := by omega
        gi_wp2
        go_end0
        exact ⟨⟨_, rfl⟩, .inl ⟨_, rfl, hJs⟩⟩
  · refine callsIn_of_wp Try.func27 rfl trivial ?_ rfl
    simp only [Try.ntmps27, List.size_toArray, List.length_cons, List.length_nil, Nat.reduceAdd, Nat.reduceSub, Array.replicate_succ, Array.replicate_zero, List.push_toArray, List.append_toArray, List.nil_append, List.cons_append]
    gi_wp2
    gi_loopw [8] (fun i wr => ∃ k : Nat, k ≤ 32 ∧ i = .int .i64 k ∧ J (upto (fun j => ((j : Int), hasB x j)) k) wr ∧ wr.heap[b2]? = W.heap[b2]?)
      (fun i _ => 32 - (intOf i).toNat)
    case atStart => exact ⟨0, Nat.zero_le _, rfl, h0, rfl⟩
    case round =>
      obtain ⟨k, hk, rfl, hJs, hnx⟩ := hrel
      have hbx : Boxed wr b2 3 (.int .i64 x) := hnx.trans hB2
      have hcx := hbx.cell
      have hN := Aside0.mk hnx
      clear hnx hbx
      by_cases hlt : k < 32
      · obtain ⟨fn, tmps, assign, body, hy, hR⟩ := hY _ ((k : Int), hasB x k) wr hJs (by rw [upto_length]; exact hlt)
        dsimp only at hy
        gi_wp2_with (refine ⟨trivial, fun _ => by omega, ?_⟩; gi_at_call 8; refine (callsIn_wide.2 (has_calls _ _ _)).mono ?_; rintro e w' ⟨rfl, rfl⟩)
        refine ⟨fun _ => by omega, hR.mono ?_⟩
        rintro e W3 (⟨rfl, hJ3, hk3⟩ | ⟨rfl, hJx3⟩)
        · gi_wp2
          go_roundw
          case rel => exact ⟨k + 1, by omega, by simp, by rw [upto_succ]; exact hJ3, hk3.trans hN.out⟩
          case measure => simp [intOf]; omega
        · gi_wp2
          refine bodyPost_ret (results_none rfl _ _ _) rfl ?_
          exact ⟨⟨_, rfl⟩, .inr ⟨_, ⟨k + 1, by omega, (upto_succ _ _).symm⟩, hJx3⟩⟩
      · obtain rfl : k = 32 := by omega
        gi_wp2
        go_end0
        exact ⟨⟨_, rfl⟩, .inl ⟨_, rfl, hJs⟩⟩

theorem below_calls (x m : Int) (w : World) : Calls Try.prog 26 #[.int .i64 x, .int .i64 m] w fun e w' =>
    e = .returned (.func (.func 27) #[] #[.pointer (some ⟨w.heap.size + 1, 0, none⟩), .pointer (some ⟨w.heap.size, 0, none⟩)]) ∧ (w.alloc (.cells #[.int .i64 x] 3)).alloc (.cells #[.int .i64 m] 3) = w' := by
  go_enter Try.func26, Try.ntmps26
  go_wp2
  go_ret
  exact ⟨rfl, rfl⟩

abbrev encs (y : Int × Bool) : Array Value := #[.int .i64 y.1, .bool y.2]

theorem below_stops (n : Nat) (hn : 3 ≤ n) (b1 b2 : Nat) (m x : Int) (w : World) (h1 : Boxed w b1 3 (.int .i64 m)) (h2 : Boxed w b2 3 (.int .i64 x)) :
    SeqStopsK Fence.wide n Try.prog 27 #[.pointer (some ⟨b1, 0, none⟩), .pointer (some ⟨b2, 0, none⟩)] encs (Kp2 b2) (fun ys => ys = upto (fun j => ((j : Int), hasB x j)) (placesN m))
      (fun pre => ∃ k, k ≤ placesN m ∧ pre = upto (fun j => ((j : Int), hasB x j)) k) (placesN m) w := fun l J Jx W hW _ _ hY h0 =>
  below1_in n hn l b1 b2 (placesN m) m x (placesN_cases m) J Jx hY W ((hW.block b1 h1.lt).trans h1) ((hW.block b2 h2.lt).trans h2) h0

theorem kp2_t {b : Nat} {A B C : World} (h : Kp2 b A B) (k : Kp2 b B C) : Kp2 b A C := Eq.trans k h
theorem kp2_b {b : Nat} {w : World} (hb : b < w.heap.size) (W : World) (l : Nat) (o o' : Obj) (hl : w.heap.size ≤ l) (_ : W.heap[l]? = some o) (_ : o.isCells = false) (_ : o.isWalk = false) : Kp2 b W (W.putObj l o') :=
  World.putObj_heap_other (by omega)
theorem kp2_set {b : Nat} (W : World) (p : Addr) (u : Value) (h : b ≠ p.block) : Kp2 b W (W.setCell p u) := Below.heap_setCell W p u b h

/-- The first place, of c places, at which a bit is 0; -1: there is none. -/
def firstFrom (x : Int) (c : Nat) : Int := (((List.range c).find? fun i : Nat => !hasB x (i : Int)).map fun i => (i : Int)).getD (-1)
def slots_First.f (a0 : Int) (a1 : Int) : Option (Int) := some (firstFrom a0 (placesN a1))
theorem firstFrom_none (x : Int) (c : Nat) (h : ∀ p ∈ upto (fun j => ((j : Int), hasB x j)) c, p.2 = true) : firstFrom x c = -1 := by
  unfold firstFrom
  have : (List.range c).find? (fun i : Nat => !hasB x (i : Int)) = none := by
    rw [List.find?_eq_none]
    intro i hi
    have := h ((i : Int), hasB x i) (by simp only [upto, List.mem_map, List.mem_range]; exact ⟨i, by simpa using hi, rfl⟩)
    simpa using this
  rw [this]; rfl
theorem firstFrom_some (x : Int) (c k : Nat) (hk : k < c) (h : ∀ p ∈ upto (fun j => ((j : Int), hasB x j)) k, p.2 = true) (hf : hasB x k = false) : firstFrom x c = k := by
  unfold firstFrom
  have e : c = k + 1 + (c - k - 1) := by omega
  have : (List.range c).find? (fun i : Nat => !hasB x (i : Int)) = some k := by
    rw [e, List.range_add, List.find?_append]
    have h1 : (List.range (k + 1)).find? (fun i : Nat => !hasB x (i : Int)) = some k := by
      rw [List.range_succ, List.find?_append]
      have : (List.range k).find? (fun i : Nat => !hasB x (i : Int)) = none := by
        rw [List.find?_eq_none]
        intro i hi
        have := h ((i : Int), hasB x i) (by simp only [upto, List.mem_map, List.mem_range]; exact ⟨i, by simpa using hi, rfl⟩)
        simpa using this
      rw [this]; simp [hf]
    rw [h1]; rfl
  rw [this]; rfl

set_option maxRecDepth 100000 in
set_option maxHeartbeats 4000000 in
theorem slots_First.calls (a0 : Int) (a1 : Int) (r : Int) (w : World) (h : slots_First.f a0 a1 = some r) :
    Calls Try.prog 15 #[.int .i64 a0, .int .i64 a1] w fun e w' => e = .returned (.int .i64 r) ∧ Below w.heap.size w w' := by
  obtain rfl : firstFrom a0 (placesN a1) = r := Option.some.inj h
  clear h
  refine (callsIn_wide (n := 6)).1 ?_
  refine callsIn_of_wp_marks Try.func15 rfl trivial ?_ rfl
  simp only [Try.ntmps15, List.size_toArray, List.length_cons, List.length_nil, Nat.reduceAdd, Nat.reduceSub, Array.replicate_succ, Array.replicate_zero, List.push_toArray, List.append_toArray, List.nil_append, List.cons_append]
  gi_wp2_with (refine ⟨trivial, ?_⟩; gi_at_call 26; refine (callsIn_wide.2 (below_calls _ _ _)).mono ?_; rintro e w' ⟨rfl, rfl⟩)
  have bR := Boxed.new w 3 (.int .i64 0)
  have bX := Boxed.new (w.alloc (.cells #[.int .i64 0] 3)) 3 (.int .i64 a0)
  have bM := Boxed.new ((w.alloc (.cells #[.int .i64 0] 3)).alloc (.cells #[.int .i64 a0] 3)) 3 (.int .i64 a1)
  have hB0 : Below w.heap.size w (((w.alloc (.cells #[.int .i64 0] 3)).alloc (.cells #[.int .i64 a0] 3)).alloc (.cells #[.int .i64 a1] 3)) := (((Below.refl _ w).alloc (Nat.le_refl _) _).alloc (by simp) _).alloc (by simp; omega) _
  simp only [World.size_alloc] at bR bX bM
  refine wpIn_rangeFunc_ownG (α := Int × Bool) (F := Fence.wide) (n := 6) (encs := encs) rfl (by omega) (gf := 27) (lb := #[.pointer (some ⟨w.heap.size + 1 + 1, 0, none⟩), .pointer (some ⟨w.heap.size + 1, 0, none⟩)]) rfl trivial (enters_of Try.func27 (by kernel_rfl) rfl)
    (below_stops 5 (by omega) (w.heap.size + 1 + 1) (w.heap.size + 1) a1 a0 _ bM (bX.alloc _)) (fun h k => kp2_t h k) (kp2_b (by simp)) (Below.refl _ _) (fun _ => rfl)
    (fun (pre : List (Int × Bool)) W => ((∀ p ∈ pre, p.2 = true) ∧ W.cell? ⟨w.heap.size, 0, none⟩ = some (.int .i64 0) ∧ W.frozen? ⟨w.heap.size, 0, none⟩ = false) ∧ Below w.heap.size w W)
    (fun c (pre : List (Int × Bool)) W => (c = .ret ∧ ∃ ini last, pre = ini ++ [last] ∧ (∀ p ∈ ini, p.2 = true) ∧ last.2 = false ∧ W.cell? ⟨w.heap.size, 0, none⟩ = some (.int .i64 (last.1 : Int))) ∧ Below w.heap.size w W)
    (OwnFrom.and (Own.from (fun s A B row hs hg hr => ⟨hs.1, cell_kept hs.2.1 hg hr, (frozen_kept hs.2.1 hg hr).trans hs.2.2⟩) _) (ownFrom_below (Nat.le_refl _) (by simp; omega)))
    (fun c => OwnFrom.and (Own.from (fun s A B row hs hg hr => by obtain ⟨hc, ini, last, e1, e2, e3, e4⟩ := hs; exact ⟨hc, ini, last, e1, e2, e3, cell_kept e4 hg hr⟩) _) (ownFrom_below (Nat.le_refl _) (by simp; omega)))
    ⟨⟨by simp, ((bR.alloc _).alloc _).cell, ((bR.alloc _).alloc _).frozen⟩, hB0⟩
    (fun (y : Int × Bool) => { tmps := #[.int .i64 a0, .int .i64 a1, undef, undef, .pointer (some ⟨w.heap.size, 0, none⟩), .int .i64 y.1, .bool y.2, .int .i64 a0, .int .i64 a1, .func (.func 27) #[] #[.pointer (some ⟨w.heap.size + 1 + 1, 0, none⟩), .pointer (some ⟨w.heap.size + 1, 0, none⟩)], .int .i64 y.1, .bool y.2, undef, undef, undef], defers := [] }) ?assign ?body ?done ?stop
  case assign =>
    intro l y W K hK
    gi_wp2
    exact hK
  case body =>
    rintro l pre ⟨yi, yb⟩ W ⟨⟨hp, hcr, hfr⟩, hB⟩ _
    cases yb with
    | false =>
      gi_wp2
      exact ⟨(KeepsOthers.setCell _ _ _).from _, ⟨rfl, pre, _, rfl, hp, rfl, World.cell?_setCell_same' _ _ _ (by rw [hcr]; rfl)⟩, hB.setCell (p := ⟨w.heap.size, 0, none⟩) (Nat.le_refl _) _⟩
    | true =>
      gi_wp2
      exact ⟨KeepsFrom.refl _ _, rfl, ⟨fun p hp' => (List.mem_append.1 hp').elim (hp p) (fun e => by simp at e; subst e; rfl), hcr, hfr⟩, hB⟩
  case done =>
    rintro D ys W hD rfl ⟨⟨hne, hcr, hfr⟩, hB⟩ hK
    gi_wp2
    have hK' := (KeepsOthers.setCell W ⟨w.heap.size, 0, none⟩ (.int .i64 (-1))).same D _ hK rfl
    refine ⟨by simp, .inl ⟨_, _, rfl, run_takeDeferred hK', ?_⟩⟩
    have hc5 := cell_kept (World.cell?_setCell_same' W ⟨w.heap.size, 0, none⟩ (.int .i64 (-1)) (by rw [hcr]; rfl)) (grownBy_putObj' _ D (.deferred none)) (fun r e => by cases e; exact ⟨_, hK', rfl⟩)
    refine ⟨.int .i64 (-1), ?_, by rw [firstFrom_none _ _ hne], (hB.setCell (p := ⟨w.heap.size, 0, none⟩) (Nat.le_refl _) _).trans (belowK_b (w := w) (Nat.le_refl _) _ D _ _ (by simp at hD; omega) hK' rfl rfl)⟩
    simp [results, Try.f15, go_sem, hc5]
  case stop =>
    rintro D c pre W hD ⟨k, hk, rfl⟩ ⟨⟨rfl, ini, last, e1, e2, e3, hcr⟩, hB⟩ hK
    gi_wp2
    refine ⟨by simp, .inl ⟨_, _, rfl, run_takeDeferred hK, ?_⟩⟩
    have hc5 := cell_kept hcr (grownBy_putObj' _ D (.deferred none)) (fun r e => by cases e; exact ⟨_, hK, rfl⟩)
    obtain ⟨k', rfl⟩ : ∃ k', k = k' + 1 := by
      cases k with
      | zero => simp [upto] at e1
      | succ k' => exact ⟨k', rfl⟩
    rw [upto_succ] at e1
    obtain ⟨rfl, e5⟩ := List.append_inj' e1 rfl
    obtain rfl : ((k' : Int), hasB a0 k') = last := by simpa using e5
    refine ⟨.int .i64 (k' : Int), ?_, by rw [firstFrom_some a0 _ k' (by omega) e2 e3], hB.trans (belowK_b (w := w) (Nat.le_refl _) W D _ _ (by simp at hD; omega) hK rfl rfl)⟩
    simp [results, Try.f15, go_sem, hc5]

def countL (l : List (Int × Bool)) : Nat := (l.filter fun p => p.2).length
theorem countL_le (l : List (Int × Bool)) : countL l ≤ l.length := List.length_filter_le _ _
theorem countL_hit (l : List (Int × Bool)) (i : Int) : countL (l ++ [(i, true)]) = countL l + 1 := by simp [countL]
theorem countL_miss (l : List (Int × Bool)) (i : Int) : countL (l ++ [(i, false)]) = countL l := by simp [countL]
/-- How many of the first c bits are 1. -/
def countFrom (x : Int) (c : Nat) : Nat := countL (upto (fun j => ((j : Int), hasB x j)) c)
def slots_Count.f (a0 : Int) (a1 : Int) : Option (Int) := some (countFrom a0 (placesN a1) : Int)

set_option maxRecDepth 100000 in
set_option maxHeartbeats 4000000 in
theorem slots_Count.calls (a0 : Int) (a1 : Int) (r : Int) (w : World) (h : slots_Count.f a0 a1 = some r) :
    Calls Try.prog 16 #[.int .i64 a0, .int .i64 a1] w fun e w' => e = .returned (.int .i64 r) ∧ Below w.heap.size w w' := by
  obtain rfl : (countFrom a0 (placesN a1) : Int) = r := Option.some.inj h
  clear h
  refine (callsIn_wide (n := 6)).1 ?_
  refine callsIn_of_wp_marks Try.func16 rfl trivial ?_ rfl
  simp only [Try.ntmps16, List.size_toArray, List.length_cons, List.length_nil, Nat.reduceAdd, Nat.reduceSub, Array.replicate_succ, Array.replicate_zero, List.push_toArray, List.append_toArray, List.nil_append, List.cons_append]
  gi_wp2_with (refine ⟨trivial, ?_⟩; gi_at_call 26; refine (callsIn_wide.2 (below_calls _ _ _)).mono ?_; rintro e w' ⟨rfl, rfl⟩)
  have bR := Boxed.new w 3 (.int .i64 0)
  have bX := Boxed.new (w.alloc (.cells #[.int .i64 0] 3)) 3 (.int .i64 a0)
  have bM := Boxed.new ((w.alloc (.cells #[.int .i64 0] 3)).alloc (.cells #[.int .i64 a0] 3)) 3 (.int .i64 a1)
  have hB0 : Below w.heap.size w (((w.alloc (.cells #[.int .i64 0] 3)).alloc (.cells #[.int .i64 a0] 3)).alloc (.cells #[.int .i64 a1] 3)) := (((Below.refl _ w).alloc (Nat.le_refl _) _).alloc (by simp) _).alloc (by simp; omega) _
  simp only [World.size_alloc] at bR bX bM
  have hpl : placesN a1 ≤ 32 := by have := placesN_cases a1; omega
  refine wpIn_rangeFunc_ownG (α := Int × Bool) (F := Fence.wide) (n := 6) (encs := encs) rfl (by omega) (gf := 27) (lb := #[.pointer (some ⟨w.heap.size + 1 + 1, 0, none⟩), .pointer (some ⟨w.heap.size + 1, 0, none⟩)]) rfl trivial (enters_of Try.func27 (by kernel_rfl) rfl)
    (below_stops 5 (by omega) (w.heap.size + 1 + 1) (w.heap.size + 1) a1 a0 _ bM (bX.alloc _)) (fun h k => kp2_t h k) (kp2_b (by simp)) (Below.refl _ _) (fun _ => rfl)
    (fun (pre : List (Int × Bool)) W => (W.cell? ⟨w.heap.size, 0, none⟩ = some (.int .i64 (countL pre : Int)) ∧ W.frozen? ⟨w.heap.size, 0, none⟩ = false) ∧ Below w.heap.size w W)
    (fun _ _ _ => False)
    (OwnFrom.and (Own.from (fun s A B row hs hg hr => ⟨cell_kept hs.1 hg hr, (frozen_kept hs.1 hg hr).trans hs.2⟩) _) (ownFrom_below (Nat.le_refl _) (by simp; omega)))
    (fun _ _ _ _ _ hs _ _ => hs)
    ⟨⟨((bR.alloc _).alloc _).cell, ((bR.alloc _).alloc _).frozen⟩, hB0⟩
    (fun (y : Int × Bool) => { tmps := #[.int .i64 a0, .int .i64 a1, undef, undef, .int .i64 0, .pointer (some ⟨w.heap.size, 0, none⟩), undef, .bool y.2, .int .i64 a0, .int .i64 a1, .func (.func 27) #[] #[.pointer (some ⟨w.heap.size + 1 + 1, 0, none⟩), .pointer (some ⟨w.heap.size + 1, 0, none⟩)], .int .i64 y.1, .bool y.2, undef, undef, undef, undef], defers := [] }) ?assign ?body ?done ?stop
  case assign =>
    intro l y W K hK
    gi_wp2
    exact hK
  case body =>
    rintro l pre ⟨yi, yb⟩ W ⟨⟨hcr, hfr⟩, hB⟩ hlt
    have hq := countL_le pre
    cases yb with
    | false =>
      gi_wp2
      exact ⟨KeepsFrom.refl _ _, rfl, ⟨by rw [countL_miss]; exact hcr, hfr⟩, hB⟩
    | true =>
      gi_wp2
      exact ⟨(KeepsOthers.setCell _ _ _).from _, kp2_set _ _ _ (by simp), ⟨by rw [countL_hit]; exact World.cell?_setCell_same' _ _ _ (by rw [hcr]; rfl), by rw [World.frozen?_setCell]; exact hfr⟩, hB.setCell (p := ⟨w.heap.size, 0, none⟩) (Nat.le_refl _) _⟩
  case done =>
    rintro D ys W hD rfl ⟨⟨hcr, hfr⟩, hB⟩ hK
    gi_wp2
    refine ⟨by simp, .inl ⟨_, _, rfl, run_takeDeferred hK, ?_⟩⟩
    exact ⟨_, results_tmp rfl _ _ _, rfl, hB.trans (belowK_b (w := w) (Nat.le_refl _) W D _ _ (by simp at hD; omega) hK rfl rfl)⟩
  case stop =>
    rintro D c pre W _ _ h _
    exact h.elim

def listL (l : List (Int × Bool)) : List Int := (l.filter fun p => p.2).map fun p => p.1
theorem listL_le (l : List (Int × Bool)) : (listL l).length ≤ l.length := by simp only [listL, List.length_map]; exact List.length_filter_le _ _
theorem listL_hit (l : List (Int × Bool)) (i : Int) : listL (l ++ [(i, true)]) = listL l ++ [i] := by simp [listL]
theorem listL_miss (l : List (Int × Bool)) (i : Int) : listL (l ++ [(i, false)]) = listL l := by simp [listL]
/-- Which of the first c bits are 1. -/
def listFrom (x : Int) (c : Nat) : List Int := listL (upto (fun j => ((j : Int), hasB x j)) c)
def slots_List.f (a0 : Int) (a1 : Int) : Option (List Int) := some (listFrom a0 (placesN a1))
theorem info3x : (Try.prog.info? 3).map (fun i => (i.zero, i.size, i.bytes)) = some (some (.int .i64 0), 1, 8) := by kernel_rfl

set_option maxRecDepth 100000 in
set_option maxHeartbeats 4000000 in
theorem slots_List.calls (a0 : Int) (a1 : Int) (r : List Int) (w : World) (h : slots_List.f a0 a1 = some r) :
    Calls Try.prog 19 #[.int .i64 a0, .int .i64 a1] w fun e w' => ∃ v0_ : Value, e = .returned (v0_) ∧ Kd.R (Kd.int .i64) 3 w' w.heap.size (fun _ => True) v0_ r ∧ Below w.heap.size w w' := by
  obtain rfl : listFrom a0 (placesN a1) = r := Option.some.inj h
  clear h
  obtain ⟨i0, hi, hz0, hz1, hz2⟩ := info_parts info3x
  refine (callsIn_wide (n := 6)).1 ?_
  refine callsIn_of_wp_marks Try.func19 rfl trivial ?_ rfl
  simp only [Try.ntmps19, List.size_toArray, List.length_cons, List.length_nil, Nat.reduceAdd, Nat.reduceSub, Array.replicate_succ, Array.replicate_zero, List.push_toArray, List.append_toArray, List.nil_append, List.cons_append]
  gi_wp2_with (refine ⟨trivial, ?_⟩; gi_at_call 26; refine (callsIn_wide.2 (below_calls _ _ _)).mono ?_; rintro e w' ⟨rfl, rfl⟩)
  have bR := Boxed.new w 26 (.slice none 0 0)
  have bX := Boxed.new (w.alloc (.cells #[.slice none 0 0] 26)) 3 (.int .i64 a0)
  have bM := Boxed.new ((w.alloc (.cells #[.slice none 0 0] 26)).alloc (.cells #[.int .i64 a0] 3)) 3 (.int .i64 a1)
  have hB0 : Below w.heap.size w (((w.alloc (.cells #[.slice none 0 0] 26)).alloc (.cells #[.int .i64 a0] 3)).alloc (.cells #[.int .i64 a1] 3)) := (((Below.refl _ w).alloc (Nat.le_refl _) _).alloc (by simp) _).alloc (by simp; omega) _
  simp only [World.size_alloc] at bR bX bM
  have hpl : placesN a1 ≤ 32 := by have := placesN_cases a1; omega
  refine wpIn_rangeFunc_ownG (α := Int × Bool) (F := Fence.wide) (n := 6) (encs := encs) rfl (by omega) (gf := 27) (lb := #[.pointer (some ⟨w.heap.size + 1 + 1, 0, none⟩), .pointer (some ⟨w.heap.size + 1, 0, none⟩)]) rfl trivial (enters_of Try.func27 (by kernel_rfl) rfl)
    (below_stops 5 (by omega) (w.heap.size + 1 + 1) (w.heap.size + 1) a1 a0 _ bM (bX.alloc _)) (fun h k => kp2_t h k) (kp2_b (by simp)) (Below.refl _ _) (fun _ => rfl)
    (fun (pre : List (Int × Bool)) W => (∃ v, Boxed W w.heap.size 26 v ∧ W.ownsRow (w.heap.size + 3) 3 1 v (listL pre).length ((listL pre).map (Value.int .i64)) ∧ True) ∧ Below (w.heap.size) w W ∧ w.heap.size + 3 ≤ W.heap.size)
    (fun _ _ _ => False)
    (OwnFrom.and (Own.from (holdsRow_own (w.heap.size + 3) w.heap.size 26 3 1 (fun pre => (listL pre).length) (fun pre => (listL pre).map (Value.int .i64)) (fun pre v => True)) _) (OwnFrom.and (ownFrom_below (Nat.le_refl _) (by simp; omega)) (fun s A B row hs hg hr => Nat.le_trans hs hg.size)))
    (fun _ _ _ _ _ hs _ _ => hs)
    ⟨⟨_, (bR.alloc _).alloc _, World.ownsRow_nil _ _ _ _, trivial⟩, hB0, by simp⟩
    (fun (y : Int × Bool) => { tmps := #[.int .i64 a0, .int .i64 a1, undef, undef, .slice none 0 0, .pointer (some ⟨w.heap.size, 0, none⟩), .int .i64 y.1, .bool y.2, .int .i64 a0, .int .i64 a1, .func (.func 27) #[] #[.pointer (some ⟨w.heap.size + 1 + 1, 0, none⟩), .pointer (some ⟨w.heap.size + 1, 0, none⟩)], .int .i64 y.1, .bool y.2, undef, undef, undef, undef, undef, undef], defers := [] }) ?assign ?body ?done ?stop
  case assign =>
    intro l y W K hK
    gi_wp2
    exact hK
  case body =>
    rintro l pre ⟨yi, yb⟩ W ⟨⟨v, hv, hrow, -⟩, hB, hsz⟩ hlt
    have hq := listL_le pre
    have hc := hv.cell
    cases yb with
    | false =>
      gi_wp2
      exact ⟨KeepsFrom.refl _ _, rfl, ⟨v, hv, by rw [listL_miss]; exact hrow, trivial⟩, hB, hsz⟩
    | true =>
      gi_wp2_with (gi_at_builtin; refine wpListIn_append_own _ rfl _ _ 26 rfl (w.heap.size + 3) 3 i0 (.int .i64 0) 1 8 Try.underlying26 hi hz0 hz1 hz2 rfl (by decide) _ _ _ rfl (hrow.alloc _) ⟨W.heap.size, 0, none⟩ 1 1 [.int .i64 yi] rfl rfl (cell_one_new _ _ _) (by simp [Value.oneCell']) (by simp only [maxLen]; omega) (by omega) (by simp; omega) ?_; intro v' w1 hown' hgrow _; obtain ⟨g', cap', rfl⟩ := ownsRow_succ hown'; obtain ⟨hv1, hv2, hr2, hk2, hb2⟩ := hv.appended (by decide) (own_weaken hrow (Nat.le_add_right _ 3)) hB.size (Nat.le_refl _) (own_weaken hown' (Nat.le_add_right _ 3)) hgrow; have hc1 := hv1.cell; have hf1 := hv1.frozen)
      have hown2 := hown'.kept (grownBy_setCell' w1 w.heap.size (.slice (some ⟨g', 0, none⟩) ((listL pre).length + 1) cap')) (.inr (hv1.not_row (by decide) hown').symm)
      refine ⟨hk2.from _, ?_, ⟨_, hv2, ?_, trivial⟩, hB.trans hb2, by have := hk2.size; omega⟩
      · refine Eq.trans (Below.heap_setCell w1 _ _ _ (by simp)) ((hgrow.block _ (by simp; omega) ?_).trans (Below.heap_alloc _ _ _ (by omega)))
        intro e
        have := own_base hrow _ e.symm
        omega
      · rw [listL_hit]; simpa using hown2
  case done =>
    rintro D ys W hD rfl ⟨⟨v, hv, hrow, -⟩, hB, hsz⟩ hK
    have hc := hv.cell
    gi_wp2
    refine ⟨by simp, .inl ⟨_, _, rfl, run_takeDeferred hK, ?_⟩⟩
    refine ⟨_, results_tmp rfl _ _ _, v, rfl, ?_, hB.trans (belowK_b (w := w) (Nat.le_refl _) W D _ _ (by simp at hD; omega) hK rfl rfl)⟩
    exact Kd.R_of_own (own_weaken (ownsRow_putObj hrow _ hK rfl) (Nat.le_add_right _ 3)) (fun _ _ => trivial)
  case stop =>
    rintro D c pre W _ _ h _
    exact h.elim

def slots_mask.f (a0 : Int) : Option (Int) := some (maskN a0)
theorem slots_mask.calls (a0 : Int) (r : Int) (w : World) (h : slots_mask.f a0 = some r) :
    Calls Try.prog 22 #[.int .i64 a0] w fun e w' => e = .returned (.int .i64 r) ∧ Drawn0 w w' := by
  obtain rfl : maskN a0 = r := Option.some.inj h
  refine (mask_calls a0 w).mono ?_
  rintro e w' ⟨rfl, rfl⟩
  exact ⟨rfl, Drawn0.refl _⟩

end Go.Proofs.Ytichbeeplpembaa.X

/- A purse in memory: five slices that are read, and each of its functions by a contract, walked by hand. Conditions: none. -/
import Derived.Test.YtmgphebhfecfmaaProg
import Derived.Below
import Derived.Deep.Draws
import Derived.OwnWalk
import Derived.ArgAppend
import Derived.Tactics
import Derived.WalkKit
import Derived.WalkLawsBesides
import Derived.WalkSpells
import Derived.KernelRfl
import Derived.RowKit3
import Derived.LoopTactic
import Derived.Outline
import Derived.OneCell
import Derived.Deep.LoopGhost
import Derived.Deep.QuietTactic
import Derived.BigQuiet
import Derived.RegionTactic
import Derived.Deep.RegionHeld3
import Derived.WideLaws
import Derived.Laws.Rows
import Derived.RowKit
import Derived.Test.YtmgphebhfecfmaaWWords
namespace Go.Proofs.Ytmgphebhfecfmaa.X
open Go.RowKit Go.Proofs.YtmgphebhfecfmaaW.PrintWords
set_option linter.unusedVariables false
set_option linter.unusedSimpArgs false

/-- A slice value's three numbers. -/
structure Sv where
  A : Option Addr
  n : Nat
  c : Nat
/-- The slice value reads as xs. -/
structure Sl (w : World) (s : Sv) (xs : List Int) : Prop where
  len : s.n = xs.length
  le : s.n ≤ s.c
  nil : s.A = none → s.n = 0 ∧ s.c = 0
  C : Kd.C (Kd.int .i64) w s.A s.n xs
theorem Sl.below {w w' : World} {s : Sv} {xs : List Int} (h : Sl w s xs) (hb : Below w.heap.size w w') : Sl w' s xs := ⟨h.len, h.le, h.nil, Kd.C_below h.C hb⟩
def PR (w : World) (P : Nat → Sv) (X : Nat → List Int) : Prop := ∀ i, i < 5 → Sl w (P i) (X i)
theorem PR.below {w w' : World} {P : Nat → Sv} {X : Nat → List Int} (h : PR w P X) (hb : Below w.heap.size w w') : PR w' P X := fun i hi => (h i hi).below hb
theorem two_cells {w w1 : World} {cs ds : Array Value} {T U : TypeId} (hg : Below ((w.alloc (.cells cs T)).alloc (.cells ds U)).heap.size ((w.alloc (.cells cs T)).alloc (.cells ds U)) w1) : w1.heap[w.heap.size]? = some (.cells cs T) ∧ w1.heap[w.heap.size + 1]? = some (.cells ds U) := by
  constructor
  · rw [hg.block _ (by simp only [World.size_alloc]; omega)]
    exact blk_alloc (blk_new _ _) _
  · rw [hg.block _ (by simp only [World.size_alloc]; omega)]
    have h := blk_new (w.alloc (.cells cs T)) (.cells ds U)
    rw [World.size_alloc] at h
    exact h
def upd {α : Type} (P : Nat → α) (c : Nat) (s : α) : Nat → α := fun i => if i = c then s else P i
theorem Sl.set {w : World} {s : Sv} {xs : List Int} (h : Sl w s xs) {g : Nat} (hf : ∀ b, s.A = some b → b.block ≠ g) (j : Nat) (u : Value) : Sl (w.setCell ⟨g, j, none⟩ u) s xs :=
  ⟨h.len, h.le, h.nil, Kd.C_keep (0 : Int) h.C ((KeepBut.refl w g none).set_ j u) (fun ad hA _ => hf ad hA)⟩
theorem PR.upd {w w' : World} {P : Nat → Sv} {X : Nat → List Int} (h : PR w P X) (hb : Below w.heap.size w w') (c : Nat) {s : Sv} {xs : List Int} (hs : Sl w' s xs) : PR w' (upd P c s) (upd X c xs) := by
  intro i hi
  unfold Go.Proofs.Ytmgphebhfecfmaa.X.upd
  by_cases e : i = c
  · rw [if_pos e, if_pos e]; exact hs
  · rw [if_neg e, if_neg e]; exact (h i hi).below hb
theorem info3 : (Try.prog.info? 3).map (fun i => (i.zero, i.size, i.bytes)) = some (some (.int .i64 0), 1, 8) := by kernel_rfl

theorem none_calls (c : Int) (b : Bool) (w : World) (h : decide (c < 0 ∨ 5 ≤ c) = b) : Calls Try.prog 18 #[.int .i64 c] w fun e w' => e = .returned (.bool b) ∧ w' = w := by
  subst h
  by_cases h0 : c < 0
  · have b0 : decide (c < 0) = true := decide_eq_true h0
    have hh : decide (c < 0 ∨ 5 ≤ c) = true := decide_eq_true (.inl h0)
    rw [hh]
    clear h0 hh
    go_enter Try.func18, Try.ntmps18
    go_wp2
    go_ret
    exact ⟨rfl, rfl⟩
  · have b0 : decide (c < 0) = false := decide_eq_false h0
    have hh : decide (c < 0 ∨ 5 ≤ c) = decide (5 ≤ c) := by simp [h0]
    rw [hh]
    clear h0 hh
    go_enter Try.func18, Try.ntmps18
    go_wp2
    go_ret
    exact ⟨rfl, rfl⟩

theorem Sl.cells {w : World} {s : Sv} {xs : List Int} (h : Sl w s xs) : ∀ b, s.A = some b → ∀ j u, (xs.map (Value.int .i64))[j]? = some u → w.cell? (b.add j) = some u := by
  intro b hb j u hj
  rw [List.getElem?_map, Option.map_eq_some_iff] at hj
  obtain ⟨x, hx, rfl⟩ := hj
  have hlt : j < xs.length := (List.getElem?_eq_some_iff.1 hx).1
  obtain ⟨ad, ead, hc⟩ := Kd.at_int h.C (j : Int) (by omega) (by have := h.len; omega)
  rw [hb] at ead
  cases ead
  rw [Int.toNat_natCast] at hc
  rw [hc]
  simp [rd, List.getD, hx]
theorem sl_own {w : World} {base m : Nat} {v : Value} {xs : List Int} (h : w.ownsRow base 3 1 v m (xs.map (Value.int .i64))) (hm : m = xs.length) : ∃ s : Sv, v = .slice s.A s.n s.c ∧ Sl w s xs ∧ ∀ b, s.A = some b → base ≤ b.block := by
  subst hm
  obtain ⟨A, c, rfl, hc, hr⟩ := Kd.R_reads (Kd.R_of_own (enc := Value.int .i64) (h1 := fun _ => rfl) (ok := fun _ => True) h (fun _ _ => trivial))
  refine ⟨⟨A, xs.length, c⟩, rfl, ⟨rfl, hc, ?_, hr⟩, ?_⟩
  rotate_left
  · intro b hb
    change A = some b at hb
    subst hb
    exact own_base h b.block (by simp [Value.ownBlock])
  intro hA
  change A = none at hA
  subst hA
  rcases h.2 with ⟨hv, _⟩ | ⟨g', cap', cur, hv, _⟩
  · exact ⟨(Value.slice.inj hv).2.1, (Value.slice.inj hv).2.2⟩
  · cases hv
theorem grown_cell {w w' : World} (hg : w.grownBy w' none) (b i : Nat) (hb : b < w.heap.size) : w'.cell? ⟨b, i, none⟩ = w.cell? ⟨b, i, none⟩ := World.cell?_of_block (w := w) (hg.block b hb (by simp))
theorem grown_frozen {w w' : World} (hg : w.grownBy w' none) (b i : Nat) (hb : b < w.heap.size) : w'.frozen? ⟨b, i, none⟩ = w.frozen? ⟨b, i, none⟩ := World.frozen?_of_block (w := w) (hg.block b hb (by simp))
theorem below_grown {w w' : World} (hg : w.grownBy w' none) : Below w.heap.size w w' := ⟨hg.os, hg.tape, hg.output, hg.size, fun k hk => hg.block k hk (by simp)⟩

theorem one_at {w : World} {b : Nat} {v : Value} (j : Nat) (u : Value) (hj : [v][j]? = some u) (h : w.cell? ⟨b, 0, none⟩ = some v) : w.cell? ((⟨b, 0, none⟩ : Addr).add j) = some u := by
  rcases j with _ | j
  · obtain rfl : v = u := by simpa using hj
    rw [add_plain]; exact h
  · simp at hj

theorem new_at (w : World) (o1 o2 : Obj) (v : Value) : (((w.alloc o1).alloc o2).alloc (.cells #[v] 3)).cell? ⟨w.heap.size + 1 + 1, 0, none⟩ = some v := by
  have h := blk_cell (blk_new ((w.alloc o1).alloc o2) (.cells #[v] 3)) 0
  simp only [World.size_alloc] at h
  exact h
theorem one_one (a : Int) : ∀ u ∈ [Value.int .i64 a], u.oneCell' = true := by
  intro u hu
  rw [List.mem_singleton] at hu
  subst hu
  rfl

theorem old_cells {w w1 : World} {cs ds es : Array Value} {T U V : TypeId} (hg : (((w.alloc (.cells cs T)).alloc (.cells ds U)).alloc (.cells es V)).grownBy w1 none) : w1.heap[w.heap.size]? = some (.cells cs T) ∧ w1.heap[w.heap.size + 1]? = some (.cells ds U) := by
  constructor
  · rw [hg.block _ (by simp only [World.size_alloc]; omega) (by simp)]
    exact blk_alloc (blk_alloc (blk_new _ _) _) _
  · rw [hg.block _ (by simp only [World.size_alloc]; omega) (by simp)]
    have h := blk_new (w.alloc (.cells cs T)) (.cells ds U)
    rw [World.size_alloc] at h
    exact blk_alloc h _

theorem push_out (P : Nat → Sv) (c a limit : Int) (w : World) (hc : c < 0 ∨ 5 ≤ c) : Calls Try.prog 7 #[.agg #[.slice (P 0).A (P 0).n (P 0).c, .slice (P 1).A (P 1).n (P 1).c, .slice (P 2).A (P 2).n (P 2).c, .slice (P 3).A (P 3).n (P 3).c, .slice (P 4).A (P 4).n (P 4).c], .int .i64 c, .int .i64 a, .int .i64 limit] w fun e w' => e = .returned (.tuple #[.agg #[.slice (P 0).A (P 0).n (P 0).c, .slice (P 1).A (P 1).n (P 1).c, .slice (P 2).A (P 2).n (P 2).c, .slice (P 3).A (P 3).n (P 3).c, .slice (P 4).A (P 4).n (P 4).c], .bool false]) ∧ Below w.heap.size w w' := by
  have HC : Aside0 (decide (c < 0 ∨ 5 ≤ c) = true) := ⟨decide_eq_true hc⟩
  clear hc
  go_enter Try.func7, Try.ntmps7
  go_wp2_with (first
    | (go_at_call 18; refine (none_calls _ true _ HC.out).mono ?_; rintro e w1 ⟨rfl, rfl⟩))
  refine bodyPost_ret (v := .tuple #[.agg #[.slice (P 0).A (P 0).n (P 0).c, .slice (P 1).A (P 1).n (P 1).c, .slice (P 2).A (P 2).n (P 2).c, .slice (P 3).A (P 3).n (P 3).c, .slice (P 4).A (P 4).n (P 4).c], .bool false]) (by simp [results, Try.results7, go_sem]) rfl ⟨rfl, ?_⟩
  repeat (first | (with_reducible exact Below.refl _ _) | refine Below.setCell ?_ (by first | exact Nat.le_refl _ | exact Nat.le_succ _) _ | refine Below.alloc ?_ (by first | exact Nat.le_refl _ | exact Nat.le_succ _ | simp) _ | apply Below.drew | apply pw_below_drewN)
theorem len_out (P : Nat → Sv) (c : Int) (w : World) (hc : c < 0 ∨ 5 ≤ c) : Calls Try.prog 17 #[.agg #[.slice (P 0).A (P 0).n (P 0).c, .slice (P 1).A (P 1).n (P 1).c, .slice (P 2).A (P 2).n (P 2).c, .slice (P 3).A (P 3).n (P 3).c, .slice (P 4).A (P 4).n (P 4).c], .int .i64 c] w fun e w' => e = .returned (.int .i64 0) ∧ Below w.heap.size w w' := by
  have HC : Aside0 (decide (c < 0 ∨ 5 ≤ c) = true) := ⟨decide_eq_true hc⟩
  clear hc
  go_enter Try.func17, Try.ntmps17
  go_wp2_with (first
    | (go_at_call 18; refine (none_calls _ true _ HC.out).mono ?_; rintro e w1 ⟨rfl, rfl⟩))
  go_ret
  refine ⟨rfl, ?_⟩
  repeat (first | (with_reducible exact Below.refl _ _) | refine Below.setCell ?_ (by first | exact Nat.le_refl _ | exact Nat.le_succ _) _ | refine Below.alloc ?_ (by first | exact Nat.le_refl _ | exact Nat.le_succ _ | simp) _ | apply Below.drew | apply pw_below_drewN)
theorem list_out (P : Nat → Sv) (c : Int) (w : World) (hc : c < 0 ∨ 5 ≤ c) : Calls Try.prog 22 #[.agg #[.slice (P 0).A (P 0).n (P 0).c, .slice (P 1).A (P 1).n (P 1).c, .slice (P 2).A (P 2).n (P 2).c, .slice (P 3).A (P 3).n (P 3).c, .slice (P 4).A (P 4).n (P 4).c], .int .i64 c] w fun e w' => e = .returned (.slice none 0 0) ∧ Below w.heap.size w w' := by
  have HC : Aside0 (decide (c < 0 ∨ 5 ≤ c) = true) := ⟨decide_eq_true hc⟩
  clear hc
  go_enter Try.func22, Try.ntmps22
  go_wp2_with (first
    | (go_at_call 18; refine (none_calls _ true _ HC.out).mono ?_; rintro e w1 ⟨rfl, rfl⟩))
  go_ret
  refine ⟨rfl, ?_⟩
  repeat (first | (with_reducible exact Below.refl _ _) | refine Below.setCell ?_ (by first | exact Nat.le_refl _ | exact Nat.le_succ _) _ | refine Below.alloc ?_ (by first | exact Nat.le_refl _ | exact Nat.le_succ _ | simp) _ | apply Below.drew | apply pw_below_drewN)
theorem pop_out (P : Nat → Sv) (c : Int) (w : World) (hc : c < 0 ∨ 5 ≤ c) : Calls Try.prog 10 #[.agg #[.slice (P 0).A (P 0).n (P 0).c, .slice (P 1).A (P 1).n (P 1).c, .slice (P 2).A (P 2).n (P 2).c, .slice (P 3).A (P 3).n (P 3).c, .slice (P 4).A (P 4).n (P 4).c], .int .i64 c] w fun e w' => e = .returned (.tuple #[.agg #[.slice (P 0).A (P 0).n (P 0).c, .slice (P 1).A (P 1).n (P 1).c, .slice (P 2).A (P 2).n (P 2).c, .slice (P 3).A (P 3).n (P 3).c, .slice (P 4).A (P 4).n (P 4).c], .int .i64 0, .bool false]) ∧ Below w.heap.size w w' := by
  have HC : Aside0 (c < 0 ∨ 5 ≤ c) := ⟨hc⟩
  clear hc
  go_enter Try.func10, Try.ntmps10
  go_wp2_with (first
    | (go_at_call 17; refine (len_out P c _ HC.out).mono ?_; rintro e w1 ⟨rfl, hb⟩; have oc := two_cells hb; have d0 := (blk_cell oc.1 0 : _ = some _); have d1 := (blk_cell oc.1 1 : _ = some _); have d2 := (blk_cell oc.1 2 : _ = some _); have d3 := (blk_cell oc.1 3 : _ = some _); have d4 := (blk_cell oc.1 4 : _ = some _); have f2 := blk_frozen oc.1; have e0 := (blk_cell oc.2 0 : _ = some _); have e1 := (blk_cell oc.2 1 : _ = some _); have e2 := (blk_cell oc.2 2 : _ = some _); have e3 := (blk_cell oc.2 3 : _ = some _); have e4 := (blk_cell oc.2 4 : _ = some _); have f3 := blk_frozen oc.2; clear oc))
  refine bodyPost_ret (v := .tuple #[.agg #[.slice (P 0).A (P 0).n (P 0).c, .slice (P 1).A (P 1).n (P 1).c, .slice (P 2).A (P 2).n (P 2).c, .slice (P 3).A (P 3).n (P 3).c, .slice (P 4).A (P 4).n (P 4).c], .int .i64 0, .bool false]) (by simp [results, Try.results10, go_sem, d0, d1, d2, d3, d4, e0, e1, e2, e3, e4]) rfl ⟨rfl, ?_⟩
  have hbl : Below w.heap.size w w1 := (((Below.refl w.heap.size w).alloc (Nat.le_refl _) _).alloc (by simp only [World.size_alloc]; omega) _).trans (hb.mono (by simp only [World.size_alloc]; omega))
  repeat (first | (with_reducible exact hbl) | refine Below.setCell ?_ (by first | exact Nat.le_refl _ | exact Nat.le_succ _) _)

set_option maxHeartbeats 1000000 in
theorem clone_calls (s : Sv) (xs : List Int) (w : World) (h : Sl w s xs) (hb : xs.length ≤ 1000000) : Calls Try.prog 25 #[.slice s.A s.n s.c] w fun e w' => ∃ s', e = .returned (.slice s'.A s'.n s'.c) ∧ Sl w' s' xs ∧ Below w.heap.size w w' := by
  cases hA : s.A with
  | none =>
    have h1 := h.nil hA
    have hx : xs = [] := List.eq_nil_of_length_eq_zero (by have := h.len; omega)
    subst hx
    rw [h1.1, h1.2]
    have e0 := fun (w : World) => Lib.run_eql_slice_nil (P := Try.prog) w 24 3 none 0 0 0 0 Try.underlying24
    clear h h1
    go_enter Try.func25, Try.ntmps25
    go_wp2
    go_ret
    exact ⟨⟨none, 0, 0⟩, rfl, ⟨rfl, Nat.le_refl _, fun _ => ⟨rfl, rfl⟩, Kd.C_nil _ _⟩, Below.refl _ _⟩
  | some ad =>
    have HA : Aside0 (s.A = some ad) := ⟨hA⟩
    have H := Aside0.mk h
    have HB := Aside0.mk hb
    have e0 := fun (w : World) => Lib.run_eql_slice_nil (P := Try.prog) w 24 3 (some ad) s.n s.c 0 0 Try.underlying24
    clear h hA hb
    go_enter Try.func25, Try.ntmps25
    go_wp2_with (first | (at_builtin; go_loud (refine Kd.R_append_row (Value.int .i64) (0 : Int) (h1 := fun _ => rfl) (w0 := w) w.heap.size rfl (.tmp 5) (.tmp 6) 24 3 (.int .i64 0) 8 rfl Try.underlying24 info3 rfl (by decide) (.slice (some ⟨w.heap.size, 0, none⟩) 0 0) [] xs (some ad) s.n s.c (fun _ => True) rfl rfl (fun _ _ => trivial) (Kd.R_of_own (own_lit w w.heap.size 3 .i64 [] (Nat.le_refl _) (by simp)) (fun _ _ => trivial)) (by rw [← HA.out]; exact (H.out.below ((Below.refl _ _).alloc (Nat.le_refl _) _)).C) ((Below.refl _ _).alloc (Nat.le_refl _) _) (by simp) (by have := H.out.len; have := HB.out; simp; omega) ?_); intro v1 w1 hR hB hg hat))
    rw [List.nil_append] at hR
    obtain ⟨s', rfl, hs, _⟩ := sl_own (Kd.own_of_R hR) rfl
    go_ret
    exact ⟨s', rfl, hs, hB⟩

end Go.Proofs.Ytmgphebhfecfmaa.X

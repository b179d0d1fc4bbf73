/- A step of the law ArenaPlays: both arenas answer the same: the walk by hand. Conditions: none. -/
import Derived.Test.YtahkfgeaegdbjaaXOne
import Derived.RegionTactic
import Derived.Deep.DeepMust
namespace Go.Proofs.Ytahkfgeaegdbjaa.X
open Go.RowKit Go.Proofs.YtahkfgeaegdbjaaW.PrintWords Go.Proofs.YtahkfgeaegdbjaaW.PrintLast Go.Proofs.YtahkfgeaegdbjaaW.PrintMore
set_option linter.unusedVariables false
set_option linter.unusedSimpArgs false

/-- All but four blocks is as it was. -/
structure Keep4 (w w' : World) (q g q2 g2 : Nat) : Prop where
  os : w'.os = w.os
  tape : w'.tape = w.tape
  output : w'.output = w.output
  size : w.heap.size ≤ w'.heap.size
  block : ∀ k, k < w.heap.size → k ≠ q → k ≠ g → k ≠ q2 → k ≠ g2 → w'.heap[k]? = w.heap[k]?
theorem Keep4.trans {a b c : World} {q g q2 g2 : Nat} (h : Keep4 a b q g q2 g2) (k : Keep4 b c q g q2 g2) : Keep4 a c q g q2 g2 :=
  ⟨k.os.trans h.os, k.tape.trans h.tape, k.output.trans h.output, Nat.le_trans h.size k.size, fun i hi h1 h2 h3 h4 => (k.block i (Nat.lt_of_lt_of_le hi h.size) h1 h2 h3 h4).trans (h.block i hi h1 h2 h3 h4)⟩
theorem Keep4.left {w w' : World} {q g q2 g2 : Nat} (h : Keep w w' q g) : Keep4 w w' q g q2 g2 := ⟨h.os, h.tape, h.output, h.size, fun k hk h1 h2 _ _ => h.block k hk h1 h2⟩
theorem Keep4.right {w w' : World} {q g q2 g2 : Nat} (h : Keep w w' q2 g2) : Keep4 w w' q g q2 g2 := ⟨h.os, h.tape, h.output, h.size, fun k hk _ _ h1 h2 => h.block k hk h1 h2⟩
theorem Keep4.of_below {w w' : World} {q g q2 g2 : Nat} (h : Below w.heap.size w w') : Keep4 w w' q g q2 g2 := ⟨h.os, h.tape, h.output, h.size, fun k hk _ _ _ _ => h.block k hk⟩
theorem Keep4.alloc (w : World) (o : Obj) {q g q2 g2 : Nat} : Keep4 w (w.alloc o) q g q2 g2 := Keep4.of_below ((Below.refl _ w).alloc (Nat.le_refl _) o)
theorem Keep4.below {B : Nat} {a w w' : World} {q g q2 g2 : Nat} (h : Below B a w) (k : Keep4 w w' q g q2 g2) (hB : B ≤ w.heap.size) (h1 : B ≤ q) (h2 : B ≤ g) (h3 : B ≤ q2) (h4 : B ≤ g2) : Below B a w' :=
  ⟨k.os.trans h.os, k.tape.trans h.tape, k.output.trans h.output, Nat.le_trans h.size k.size, fun i hi => (k.block i (by omega) (by omega) (by omega) (by omega) (by omega)).trans (h.block i hi)⟩
theorem Keep.cell {w w' : World} {q g : Nat} (h : Keep w w' q g) (b i : Nat) (hb : b < w.heap.size) (h1 : b ≠ q) (h2 : b ≠ g) : w'.cell? ⟨b, i, none⟩ = w.cell? ⟨b, i, none⟩ :=
  World.cell?_of_block (w := w) (h.block b hb h1 h2)
theorem Keep.undrew {w w' : World} {q g : Nat} (h : Keep w.drew w' q g) : Keep w w' q g := ⟨h.os, h.tape, h.output, h.size, h.block⟩
/-- Two arenas of the same words and count, apart. -/
structure Pair (w : World) (q g q2 g2 : Nat) (ws : List Int) (c : Int) : Prop where
  m : Ar w q g ws c
  r : Ar w q2 g2 ws c
  d1 : q ≠ q2
  d2 : q ≠ g2
  d3 : g ≠ q2
  d4 : g ≠ g2

theorem rstore_to {w : World} {q g : Nat} {ws : List Int} {c : Int} (h : Ar w q g ws c) (a x e' : Int) (he : (if inR ws a then 0 else 3) = e') :
    Calls Try.prog 28 #[.pointer (some ⟨q, 0, none⟩), .int .i64 a, .int .i64 x] w fun e w' => e = .returned (.int .i64 e') ∧ Ar w' q g (if inR ws a then ws.set a.toNat x else ws) (cntN ws c a) ∧ Keep w w' q g := by
  subst he
  exact rstore_calls w q g ws c a x h
def StepPost (w : World) (q g q2 g2 n : Nat) (e : Ending) (w' : World) : Prop := e = .returned (.bool true) ∧ ∃ ws' c', ws'.length = n ∧ Pair w' q g q2 g2 ws' c' ∧ Keep4 w w' q g q2 g2
set_option maxHeartbeats 4000000 in
theorem step_calls (w : World) (q g q2 g2 : Nat) (ws : List Int) (c k a x y : Int) (h : Pair w q g q2 g2 ws c) :
    Calls Try.prog 21 #[.pointer (some ⟨q, 0, none⟩), .pointer (some ⟨q2, 0, none⟩), .agg #[.int .i64 k, .int .i64 a, .int .i64 x, .int .i64 y]] w (StepPost w q g q2 g2 ws.length) := by
  have HM := Aside0.mk h.m
  have HR := Aside0.mk h.r
  have D := Aside0.mk (And.intro h.d1 (And.intro h.d2 (And.intro h.d3 h.d4)))
  have LT := Aside0.mk (And.intro (show w.heap.size ≠ q by have := h.m.lq; omega) (show w.heap.size ≠ g by have := h.m.lg; omega))
  have LT2 := Aside0.mk (And.intro (show w.heap.size ≠ q2 by have := h.r.lq; omega) (show w.heap.size ≠ g2 by have := h.r.lg; omega))
  have x0 : ∀ (w : World), (w.alloc (.cells #[.int .i64 k, .int .i64 a, .int .i64 x, .int .i64 y] 36)).cell? ⟨w.heap.size, 0, none⟩ = some (.int .i64 k) := fun w => by simp
  have x1 : ∀ (w : World), (w.alloc (.cells #[.int .i64 k, .int .i64 a, .int .i64 x, .int .i64 y] 36)).cell? ⟨w.heap.size, 1, none⟩ = some (.int .i64 a) := fun w => by simp
  have x2 : ∀ (w : World), (w.alloc (.cells #[.int .i64 k, .int .i64 a, .int .i64 x, .int .i64 y] 36)).cell? ⟨w.heap.size, 2, none⟩ = some (.int .i64 x) := fun w => by simp
  have x3 : ∀ (w : World), (w.alloc (.cells #[.int .i64 k, .int .i64 a, .int .i64 x, .int .i64 y] 36)).cell? ⟨w.heap.size, 3, none⟩ = some (.int .i64 y) := fun w => by simp
  clear h
  have hk : k = 0 ∨ k = 1 ∨ k = 2 ∨ k = 3 ∨ ((k == 0) = false ∧ (k == 1) = false ∧ (k == 2) = false ∧ (k == 3) = false) := by
    by_cases e0 : k = 0
    · exact .inl e0
    by_cases e1 : k = 1
    · exact .inr (.inl e1)
    by_cases e2 : k = 2
    · exact .inr (.inr (.inl e2))
    by_cases e3 : k = 3
    · exact .inr (.inr (.inr (.inl e3)))
    exact .inr (.inr (.inr (.inr ⟨beq_eq_false_iff_ne.2 e0, beq_eq_false_iff_ne.2 e1, beq_eq_false_iff_ne.2 e2, beq_eq_false_iff_ne.2 e3⟩)))
  have len_if : ∀ (p : Prop) [Decidable p] (v : Int), (if p then ws.set a.toNat v else ws).length = ws.length := by
    intro p _ v; by_cases hp : p
    · rw [if_pos hp, List.length_set]
    · rw [if_neg hp]
  obtain ⟨r, HE⟩ : ∃ r : Int, Aside0 ((if inR ws a then (0 : Int) else 3) = r) := ⟨_, ⟨rfl⟩⟩
  rcases hk with rfl | rfl | rfl | rfl | ⟨k0, k1, k2, k3⟩
  · go_enter Try.func21, Try.ntmps21
    go_wp2_with (first
      | (go_at_call 27; refine (rload_calls _ q2 g2 ws c a R1.out).mono ?_; rintro e w2 ⟨rfl, hA2, hK2⟩; have T2 := Aside0.mk (And.intro (M1.out.keep hK2 D.out.1 D.out.2.1 D.out.2.2.1 D.out.2.2.2) (And.intro hA2 (K1.out.trans (Keep4.right hK2)))); clear hA2 hK2)
      | (go_at_call 14; refine (load_calls _ q g ws c a (HM.out.alloc _)).mono ?_; rintro e w1 ⟨rfl, hA1, hK1⟩; have M1 := Aside0.mk hA1; have R1 := Aside0.mk ((HR.out.alloc _).keep hK1 D.out.1.symm D.out.2.2.1.symm D.out.2.1.symm D.out.2.2.2.symm); have K1 : Aside0 (Keep4 w w1 q g q2 g2) := Aside0.mk ((Keep4.alloc w _).trans (Keep4.left hK1)); have y1 := (hK1.cell w.heap.size 1 (by simp) LT.out.1 LT.out.2).trans (x1 w); have y2 := (hK1.cell w.heap.size 2 (by simp) LT.out.1 LT.out.2).trans (x2 w); have y3 := (hK1.cell w.heap.size 3 (by simp) LT.out.1 LT.out.2).trans (x3 w); clear hA1 hK1))
    all_goals go_ret
    all_goals exact ⟨rfl, _, _, len_if _ _, ⟨T2.out.1, T2.out.2.1, D.out.1, D.out.2.1, D.out.2.2.1, D.out.2.2.2⟩, T2.out.2.2⟩
  · go_enter Try.func21, Try.ntmps21
    go_wp2
    go_region_with (first
      | (go_at_call 28; refine (rstore_to R1.out a x r HE.out).mono ?_; rintro e w2 ⟨rfl, hA2, hK2⟩; have T2 : Aside0 (Ar w2 q g _ (cntN ws c a) ∧ Ar w2 q2 g2 _ (cntN ws c a) ∧ Keep4 w w2 q g q2 g2) := Aside0.mk (And.intro (M1.out.keep hK2 D.out.1 D.out.2.1 D.out.2.2.1 D.out.2.2.2) (And.intro hA2 (K1.out.trans (Keep4.right hK2)))); clear hA2 hK2)
      | (go_at_call 17; refine (store_to N2.out a x _ _ r rfl rfl HE.out).mono ?_; rintro e w2 ⟨rfl, hA1, hK1⟩; have T2 : Aside0 (Ar w2 q g _ (cntN ws c a) ∧ Ar w2 q2 g2 _ (cntN ws c a) ∧ Keep4 w w2 q g q2 g2) := Aside0.mk (And.intro hA1 (And.intro (S2.out.keep hK1 D.out.1.symm D.out.2.2.1.symm D.out.2.1.symm D.out.2.2.2.symm) (L2.out.trans (Keep4.left hK1)))); clear hA1 hK1)
      | (go_at_call 17; refine (store_to (HM.out.alloc _).drew a x _ _ r rfl rfl HE.out).mono ?_; rintro e w1 ⟨rfl, hA1, hK1⟩; replace hK1 := hK1.undrew; have M1 := Aside0.mk hA1; have R1 := Aside0.mk ((HR.out.alloc _).keep hK1 D.out.1.symm D.out.2.2.1.symm D.out.2.1.symm D.out.2.2.2.symm); have K1 : Aside0 (Keep4 w w1 q g q2 g2) := Aside0.mk ((Keep4.alloc w _).trans (Keep4.left hK1)); have y1 := (hK1.cell w.heap.size 1 (by simp) LT.out.1 LT.out.2).trans (x1 w); have y2 := (hK1.cell w.heap.size 2 (by simp) LT.out.1 LT.out.2).trans (x2 w); clear hA1 hK1)
      | (go_at_call 28; refine (rstore_to (HR.out.alloc _).drew a x r HE.out).mono ?_; rintro e v2 ⟨rfl, hA2, hK2⟩; replace hK2 := hK2.undrew; have S2 := Aside0.mk hA2; have N2 := Aside0.mk ((HM.out.alloc _).keep hK2 D.out.1 D.out.2.1 D.out.2.2.1 D.out.2.2.2); have L2 : Aside0 (Keep4 w v2 q g q2 g2) := Aside0.mk ((Keep4.alloc w _).trans (Keep4.right hK2)); have y1 := (hK2.cell w.heap.size 1 (by simp) LT2.out.1 LT2.out.2).trans (x1 w); have y2 := (hK2.cell w.heap.size 2 (by simp) LT2.out.1 LT2.out.2).trans (x2 w); clear hA2 hK2))
    all_goals
      go_wp2
      all_goals
        go_ret
        exact ⟨rfl, _, _, len_if _ _, ⟨T2.out.1, T2.out.2.1, D.out.1, D.out.2.1, D.out.2.2.1, D.out.2.2.2⟩, T2.out.2.2⟩
  · go_enter Try.func21, Try.ntmps21
    go_wp2_with (first
      | (go_at_call 29; refine (rswap_calls _ q2 g2 ws c a x y R1.out).mono ?_; rintro e w2 ⟨rfl, hA2, hK2⟩; have T2 := Aside0.mk (And.intro (M1.out.keep hK2 D.out.1 D.out.2.1 D.out.2.2.1 D.out.2.2.2) (And.intro hA2 (K1.out.trans (Keep4.right hK2)))); clear hA2 hK2)
      | (go_at_call 18; refine (swap_calls _ q g ws c a x y (HM.out.alloc _)).mono ?_; rintro e w1 ⟨rfl, hA1, hK1⟩; have M1 := Aside0.mk hA1; have R1 := Aside0.mk ((HR.out.alloc _).keep hK1 D.out.1.symm D.out.2.2.1.symm D.out.2.1.symm D.out.2.2.2.symm); have K1 : Aside0 (Keep4 w w1 q g q2 g2) := Aside0.mk ((Keep4.alloc w _).trans (Keep4.left hK1)); have y1 := (hK1.cell w.heap.size 1 (by simp) LT.out.1 LT.out.2).trans (x1 w); have y2 := (hK1.cell w.heap.size 2 (by simp) LT.out.1 LT.out.2).trans (x2 w); have y3 := (hK1.cell w.heap.size 3 (by simp) LT.out.1 LT.out.2).trans (x3 w); clear hA1 hK1))
    all_goals go_ret
    all_goals exact ⟨rfl, _, _, len_if _ _, ⟨T2.out.1, T2.out.2.1, D.out.1, D.out.2.1, D.out.2.2.1, D.out.2.2.2⟩, T2.out.2.2⟩
  · go_enter Try.func21, Try.ntmps21
    go_wp2_with (first
      | (go_at_call 30; refine (rbump_calls _ q2 g2 ws c a x R1.out).mono ?_; rintro e w2 ⟨rfl, hA2, hK2⟩; have T2 := Aside0.mk (And.intro (M1.out.keep hK2 D.out.1 D.out.2.1 D.out.2.2.1 D.out.2.2.2) (And.intro hA2 (K1.out.trans (Keep4.right hK2)))); clear hA2 hK2)
      | (go_at_call 13; refine (bump_calls _ q g ws c a x (HM.out.alloc _)).mono ?_; rintro e w1 ⟨rfl, hA1, hK1⟩; have M1 := Aside0.mk hA1; have R1 := Aside0.mk ((HR.out.alloc _).keep hK1 D.out.1.symm D.out.2.2.1.symm D.out.2.1.symm D.out.2.2.2.symm); have K1 : Aside0 (Keep4 w w1 q g q2 g2) := Aside0.mk ((Keep4.alloc w _).trans (Keep4.left hK1)); have y1 := (hK1.cell w.heap.size 1 (by simp) LT.out.1 LT.out.2).trans (x1 w); have y2 := (hK1.cell w.heap.size 2 (by simp) LT.out.1 LT.out.2).trans (x2 w); have y3 := (hK1.cell w.heap.size 3 (by simp) LT.out.1 LT.out.2).trans (x3 w); clear hA1 hK1))
    all_goals go_ret
    all_goals exact ⟨rfl, _, _, len_if _ _, ⟨T2.out.1, T2.out.2.1, D.out.1, D.out.2.1, D.out.2.2.1, D.out.2.2.2⟩, T2.out.2.2⟩
  · go_enter Try.func21, Try.ntmps21
    go_wp2
    go_ret
    exact ⟨rfl, _, _, rfl, ⟨HM.out.alloc _, HR.out.alloc _, D.out.1, D.out.2.1, D.out.2.2.1, D.out.2.2.2⟩, Keep4.alloc w _⟩

end Go.Proofs.Ytahkfgeaegdbjaa.X

/- The example of the document: contract by hand. Conditions: none. -/
import Derived.Test.YtlockojfinmddaaXRefs2
namespace Go.Proofs.Ytlockojfinmddaa.X
open Go.RowKit Go.Proofs.Ytlockojfinmddaa.PShrinkScripts Go.Proofs.YtlockojfinmddaaW.PrintWords Go.Proofs.YtlockojfinmddaaW.PrintLast Go.Proofs.YtlockojfinmddaaW.PrintMore
set_option linter.unusedVariables false
set_option linter.unusedSimpArgs false

def en (k : Int) : S39 := ⟨0, k, 0, ⟨0, 0, 0, 0, 0⟩⟩
def L3 : List S39 := [en 0, en 1, en 2]
def enc (x : S39) : List Value := [.int .i64 x.f0, .int .i64 x.f1, .int .i64 x.f2, .int .i64 x.f3.f0, .int .i64 x.f3.f1, .int .i64 x.f3.f2, .int .i64 x.f3.f3, .int .i64 x.f3.f4]
theorem lit3 {w : World} {g : Nat} (h : w.heap[g]? = some (.cells (enc (en 0) ++ enc (en 1) ++ enc (en 2)).toArray 39)) : Kd.C k39 w (some ⟨g, 0, none⟩) 3 L3 := by
  refine ⟨rfl, by decide, fun _ => ⟨_, rfl, fun j p hj => ?_⟩⟩
  have hc := fun i => blk_cell h i
  have key : ∀ (j : Nat) (x : S39), L3[j]? = some x → ∀ i u, (enc x)[i]? = some u → (enc (en 0) ++ enc (en 1) ++ enc (en 2)).toArray[j * 8 + i]? = some u := by
    intro j x hj i u hu
    have hi : i < 8 := (List.getElem?_eq_some_iff.1 hu).1
    have hj2 : j < 3 := (List.getElem?_eq_some_iff.1 hj).1
    have hjs : j = 0 ∨ j = 1 ∨ j = 2 := by omega
    have his : i = 0 ∨ i = 1 ∨ i = 2 ∨ i = 3 ∨ i = 4 ∨ i = 5 ∨ i = 6 ∨ i = 7 := by omega
    rcases hjs with rfl | rfl | rfl <;> (obtain rfl := Option.some.inj hj) <;> rcases his with rfl | rfl | rfl | rfl | rfl | rfl | rfl | rfl <;> exact hu
  refine ⟨enc p, rfl, k39_mk w p, fun i u hu => ?_⟩
  rw [Addr.add_lit, Nat.zero_add]
  have e : k39.sz = 8 := rfl
  rw [e, hc]
  exact key j p hj i u hu
theorem ask_h (b : Nat) (A : Option Addr) (c : Nat) : (Qs.mk b A c [1] 1 0).h = holdB [1] 1 0 := rfl
theorem ex1 : script (holdB [1] 1 0) L3 = [en 1] := by kernel_rfl
theorem ex2 : leastB (holdB [1] 1 0) [en 1] = true := by kernel_rfl
theorem ex3 : wout L3 0 2 = [en 2] := by kernel_rfl
theorem mid3 {w : World} {g : Nat} (h : Kd.C k39 w (some ⟨g, 0, none⟩) 3 L3) : Kd.C k39 w (some ⟨g, 8, none⟩) 1 [en 1] := by
  have := Kd.C_mid (k := k39) (c := 3) (lo := 1) (hi := 2) (xs := L3) h (by decide) (by decide) (by decide)
  exact this
theorem got_to {w : World} {l m : List S39} (e : l = m) {e0 : Ending} {w' : World} (h : Got w l e0 w') : ∃ A c, e0 = .returned (.slice A m.length c) ∧ m.length ≤ c ∧ Kd.C k39 w' A m.length m ∧ Below w.heap.size w w' := by subst e; exact h
theorem below_set {B : Nat} {a w : World} {g i : Nat} (h : Below B a w) (hg : B ≤ g) (v : Value) : Below B a (w.setCell ⟨g, i, none⟩ v) := h.setCell hg _
theorem blk_new1 (w : World) (o o2 : Obj) : ((w.alloc o).alloc o2).heap[w.heap.size + 1]? = some o2 := by
  have h := blk_new (w.alloc o) o2
  rw [World.size_alloc] at h
  exact h
theorem blk_new2 (w : World) (o o2 o3 : Obj) : (((w.alloc o).alloc o2).alloc o3).heap[w.heap.size + 1 + 1]? = some o3 := by
  have h := blk_new ((w.alloc o).alloc o2) o3
  rw [World.size_alloc, World.size_alloc] at h
  exact h
theorem lit1 {w : World} {g : Nat} (h : w.heap[g]? = some (.cells #[.int .i64 1] 3)) : Kd.C (Kd.int .i64) w (some ⟨g, 0, none⟩) 1 [1] := by
  refine ⟨rfl, by decide, fun _ => ⟨_, rfl, fun j p hj => ?_⟩⟩
  have hj2 : j < 1 := (List.getElem?_eq_some_iff.1 hj).1
  obtain rfl : j = 0 := by omega
  obtain rfl := Option.some.inj hj
  refine ⟨[.int .i64 1], rfl, rfl, fun i u hu => ?_⟩
  have hi : i < 1 := (List.getElem?_eq_some_iff.1 hu).1
  obtain rfl : i = 0 := by omega
  rw [Addr.add_lit]
  exact (blk_cell h 0).trans hu
theorem qu_made {W w3 : World} {P : Qs} (e : w3 = W.alloc P.cells) (h : Qr W P) : Qu w3 (Qs.mk W.heap.size P.A P.c P.ws P.each P.most) := by subst e; exact Qu.made h
theorem below_made {W w3 : World} {P : Qs} (e : w3 = W.alloc P.cells) : Below W.heap.size W w3 := by subst e; exact ballo (Below.refl _ _) _
theorem same_calls (A1 : Option Addr) (c1 : Nat) (l : List S39) (A2 : Option Addr) (c2 : Nat) (w : World) (h1 : Kd.C k39 w A1 l.length l) (hc1 : l.length ≤ c1) (h2 : Kd.C k39 w A2 l.length l) (hc2 : l.length ≤ c2) (hl : l.length ≤ 1000000) : Calls Try.prog 9 #[.slice A1 l.length c1, .slice A2 l.length c2] w fun e w' => e = .returned (.bool true) ∧ Below w.heap.size w w' := by
  refine (assartlaw31_Script_Same.calls _ A1 c1 l A2 c2 l true w h1 hc1 h2 hc2 (same_f l hl)).mono ?_
  rintro e w' ⟨rfl, n, rfl⟩
  exact ⟨rfl, pw_below_drewN (Below.refl _ _) n⟩
theorem least_to (P : Qs) (A : Option Addr) (c : Nat) (l : List S39) (r : Bool) (w : World) (hq : Qu w P) (hC : Kd.C k39 w A l.length l) (hc : l.length ≤ c) (hl : l.length ≤ 1000) (hr : leastB P.h l = r) : Calls Try.prog 14 #[.slice A l.length c, P.fn] w fun e w' => e = .returned (.bool r) ∧ Below w.heap.size w w' := by
  subst hr
  exact least_calls P A c l w hq hC hc hl
set_option maxHeartbeats 4000000 in
theorem lives_calls (w : World) : Calls Try.prog 7 #[] w fun e w' => e = .returned (.bool true) ∧ Below w.heap.size w w' := by
  go_enter Try.func7, Try.ntmps7
  go_wp2_with fail
  generalize hW : World.alloc (World.alloc (World.alloc w _) _) _ = W
  have k0 : W.heap[w.heap.size]? = some (.cells (enc (en 0) ++ enc (en 1) ++ enc (en 2)).toArray 39) := by
    rw [← hW]
    exact blk_alloc (blk_alloc (blk_new w _) _) _
  have k1 : W.heap[w.heap.size + 1]? = some (.cells #[.int .i64 1] 3) := by
    rw [← hW]
    exact blk_alloc (blk_new1 w _ _) _
  have k2 : W.heap[w.heap.size + 1 + 1]? = some (.cells #[.slice (some ⟨w.heap.size + 1, 0, none⟩) 1 1, .int .i64 1, .int .i64 0] 24) := by
    rw [← hW]
    exact blk_new2 w _ _ _
  have kb : Below w.heap.size w W := by
    rw [← hW]
    exact ballo (ballo (ballo (Below.refl _ _) _) _) _
  have HL3 := Aside0.mk (lit3 k0)
  have HP : Aside0 (Qr W (Qs.mk 0 (some ⟨w.heap.size + 1, 0, none⟩) 1 [1] 1 0)) := ⟨⟨lit1 k1, Nat.le_refl 1, (by decide : 1 ≤ 1000)⟩⟩
  have KS : Aside0 (∀ w', Below W.heap.size W w' → (w'.cell? ⟨w.heap.size + 1 + 1, 0, none⟩ = some (.slice (some ⟨w.heap.size + 1, 0, none⟩) 1 1) ∧ w'.cell? ⟨w.heap.size + 1 + 1, 1, none⟩ = some (.int .i64 1) ∧ w'.cell? ⟨w.heap.size + 1 + 1, 2, none⟩ = some (.int .i64 0))) := ⟨fun w' hb => ⟨pw_cell_below hb (blk_cell k2 0), pw_cell_below hb (blk_cell k2 1), pw_cell_below hb (blk_cell k2 2)⟩⟩
  have HW0 := Aside0.mk (below_drew (Below.refl W.heap.size W))
  have HKB := Aside0.mk kb
  have HE := Aside0.mk (And.intro ex1 (And.intro ex2 ex3))
  clear k0 k1 k2 hW kb
  have HX := HW0
  go_region_held3 (fun w' => w'.cell? ⟨w.heap.size + 1 + 1, 0, none⟩ = some (.slice (some ⟨w.heap.size + 1, 0, none⟩) 1 1) ∧ w'.cell? ⟨w.heap.size + 1 + 1, 1, none⟩ = some (.int .i64 1) ∧ w'.cell? ⟨w.heap.size + 1 + 1, 2, none⟩ = some (.int .i64 0))
    (first | (with_reducible exact KS.out _ HX.out) | exact KS.out _ HX.out)
    (first
      | (go_at_call 11; refine (script_calls (Qs.mk q1 (some ⟨w.heap.size + 1, 0, none⟩) 1 [1] 1 0) (some ⟨w.heap.size, 0, none⟩) 3 L3 _ HQ1.out (Kd.C_below HL3.out HX1.out) (by decide) (by decide)).mono ?_; rintro e w4 hg; obtain ⟨A4, c4, rfl, hc4, hC4, hB4⟩ := got_to HE.out.1 hg; have HX := Aside0.mk (bthen HX1.out hB4); have HX2 := HX; have HG4 := Aside0.mk (And.intro hc4 hC4); clear hc4 hC4 hB4 hg)
      | (go_at_call 14; refine (least_to (Qs.mk q2 (some ⟨w.heap.size + 1, 0, none⟩) 1 [1] 1 0) (some ⟨w.heap.size, 8, none⟩) 2 [en 1] true _ HQ4.out (mid3 (Kd.C_below HL3.out HX4.out)) (by decide) (by decide) HE.out.2.1).mono ?_; rintro e w7 ⟨rfl, hB7⟩; have HX := Aside0.mk (bthen HX4.out hB7); have HX5 := HX; clear hB7)
      | (go_at_call 9; refine (same_calls A4 c4 [en 1] (some ⟨w.heap.size, 8, none⟩) 2 _ HG4.out.2 HG4.out.1 (mid3 (Kd.C_below HL3.out HX2.out)) (by decide) (by decide)).mono ?_; rintro e w5 ⟨rfl, hB5⟩; have HX := Aside0.mk (bthen HX2.out hB5); have HX3 := HX; clear hB5)
      | (go_at_call 8; refine (without_n (some ⟨w.heap.size, 0, none⟩) 3 3 L3 0 2 [en 2] _ (Kd.C_below HL3.out HX5.out) (by decide) (by decide) HE.out.2.2.symm rfl).mono ?_; rintro e w8 ⟨A8, c8, rfl, hR8, hB8⟩; have HX := Aside0.mk (bthen HX5.out hB8); have HX6 := HX; clear hB8 hR8)
      | (go_at_call 12; refine (asks_calls (Qs.mk 0 (some ⟨w.heap.size + 1, 0, none⟩) 1 [1] 1 0) _).mono ?_; rintro e w6 ⟨rfl, hw6⟩; have HQ4 := Aside0.mk (qu_made hw6 (HP.out.below HX3.out)); have HX := Aside0.mk (bthen HX3.out (below_made hw6)); have HX4 := HX; obtain ⟨q2, hq2⟩ : ∃ q2, w5.heap.size = q2 := ⟨_, rfl⟩; rw [hq2] at HQ4 ⊢; clear hw6 hq2)
      | (go_at_call 12; refine (asks_calls (Qs.mk 0 (some ⟨w.heap.size + 1, 0, none⟩) 1 [1] 1 0) _).mono ?_; rintro e w3 ⟨rfl, hw3⟩; have HQ1 := Aside0.mk (qu_made hw3 (HP.out.below HW0.out)); have HX := Aside0.mk (bthen HW0.out (below_made hw3)); have HX1 := HX; obtain ⟨q1, hq1⟩ : ∃ q1, W.drew.heap.size = q1 := ⟨_, rfl⟩; rw [hq1] at HQ1 ⊢; clear hw3 hq1))
  go_wp2_with fail
  go_ret
  exact ⟨rfl, bthen HKB.out HX6.out⟩

end Go.Proofs.Ytlockojfinmddaa.X

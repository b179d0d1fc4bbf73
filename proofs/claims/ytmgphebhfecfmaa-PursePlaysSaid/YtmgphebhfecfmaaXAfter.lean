/- A purse behind some steps: a contract by hand. Conditions: none. -/
import Derived.Test.YtmgphebhfecfmaaXLives
import Derived.Test.YtmgphebhfecfmaaXTail
namespace Go.Proofs.Ytmgphebhfecfmaa.X
open Go.RowKit Go.Proofs.Ytmgphebhfecfmaa.PPursePlays Go.Proofs.YtmgphebhfecfmaaW.PrintWords Go.Proofs.YtmgphebhfecfmaaW.PrintLast Go.Proofs.YtmgphebhfecfmaaW.PrintMore
set_option linter.unusedVariables false
set_option linter.unusedSimpArgs false

/-- A row of steps in memory, four numbers each. -/
def ActsAt (w : World) (A : Option Addr) (n : Nat) : Prop := 0 < n → ∃ ad : Addr, A = some ad ∧ ∀ i, i < n → ∀ j, j < 4 → ∃ v : Int, w.cell? (ad.add (i * 4 + j)) = some (.int .i64 v)
theorem ActsAt.below {w w' : World} {A : Option Addr} {n : Nat} (h : ActsAt w A n) (hb : Below w.heap.size w w') : ActsAt w' A n := by
  intro hn
  obtain ⟨ad, e, hc⟩ := h hn
  refine ⟨ad, e, fun i hi j hj => ?_⟩
  obtain ⟨v, hv⟩ := hc i hi j hj
  exact ⟨v, pw_cell_below hb hv⟩
theorem popX_total (X : Nat → List Int) (c : Int) : total (popX X c) ≤ total X := by
  unfold popX
  by_cases h : popOk X c = true
  · rw [if_pos h]
    have hc := of_decide_eq_true h
    rcases cls_nat ⟨hc.1, hc.2.1⟩ with rfl | rfl | rfl | rfl | rfl <;> simp [total, upd] <;> omega
  · rw [if_neg h]; exact Nat.le_refl _
theorem pushX_total (X : Nat → List Int) (c a l : Int) : total (pushX X c a l) ≤ total X + 1 := by
  unfold pushX
  by_cases h : pushOk X c l = true
  · rw [if_pos h]
    have hc := of_decide_eq_true h
    rcases cls_nat ⟨hc.1, hc.2.1⟩ with rfl | rfl | rfl | rfl | rfl <;> simp [total, upd] <;> omega
  · rw [if_neg h]; exact Nat.le_succ _
theorem act_far {w : World} {A : Option Addr} {ad : Addr} {n : Nat} (h : ActsAt w A n) (hn : 0 < n) (e : A = some ad) : ad.block < w.heap.size := by
  obtain ⟨ad', e', hc⟩ := h hn
  rw [e] at e'
  cases e'
  obtain ⟨v, hv⟩ := hc 0 hn 0 (by omega)
  have := World.block_lt_of_cell? w _ hv
  rwa [add_block] at this
theorem set5_far {w : World} {a : Addr} {u : Value} {g : Nat} (h : a.block ≠ g) (hu : w.cell? a = some u) (v0 v1 v2 v3 v4 : Value) : (((((w.setCell ⟨g, 0, none⟩ v0).setCell ⟨g, 1, none⟩ v1).setCell ⟨g, 2, none⟩ v2).setCell ⟨g, 3, none⟩ v3).setCell ⟨g, 4, none⟩ v4).cell? a = some u :=
  (cell_far h _).trans ((cell_far h _).trans ((cell_far h _).trans ((cell_far h _).trans ((cell_far h _).trans hu))))
theorem set5_blk {w : World} {g : Nat} {T : TypeId} {cs : Array Value} (h : w.heap[g]? = some (.cells cs T)) (v0 v1 v2 v3 v4 : Value) (hs : cs.size = 5) : (((((w.setCell ⟨g, 0, none⟩ v0).setCell ⟨g, 1, none⟩ v1).setCell ⟨g, 2, none⟩ v2).setCell ⟨g, 3, none⟩ v3).setCell ⟨g, 4, none⟩ v4).heap[g]? = some (.cells #[v0, v1, v2, v3, v4] T) := by
  have h2 := blk_set (blk_set (blk_set (blk_set (blk_set h 0 v0) 1 v1) 2 v2) 3 v3) 4 v4
  rw [h2]
  obtain ⟨l⟩ := cs
  have hl : l.length = 5 := hs
  rcases l with _ | ⟨a, _ | ⟨b, _ | ⟨c, _ | ⟨d, _ | ⟨e, _ | ⟨f, l⟩⟩⟩⟩⟩⟩
  all_goals simp only [List.length_nil, List.length_cons] at hl
  all_goals first | omega | simp
theorem set5_oth {w : World} {g k : Nat} {o : Option Obj} (h : w.heap[k]? = o) (hk : k ≠ g) (v0 v1 v2 v3 v4 : Value) : (((((w.setCell ⟨g, 0, none⟩ v0).setCell ⟨g, 1, none⟩ v1).setCell ⟨g, 2, none⟩ v2).setCell ⟨g, 3, none⟩ v3).setCell ⟨g, 4, none⟩ v4).heap[k]? = o := by
  rw [Below.heap_setCell _ _ _ _ hk, Below.heap_setCell _ _ _ _ hk, Below.heap_setCell _ _ _ _ hk, Below.heap_setCell _ _ _ _ hk, Below.heap_setCell _ _ _ _ hk]
  exact h
theorem below_set5 {B : Nat} {a w : World} {g : Nat} (h : Below B a w) (hg : B ≤ g) (v0 v1 v2 v3 v4 : Value) : Below B a (((((w.setCell ⟨g, 0, none⟩ v0).setCell ⟨g, 1, none⟩ v1).setCell ⟨g, 2, none⟩ v2).setCell ⟨g, 3, none⟩ v3).setCell ⟨g, 4, none⟩ v4) :=
  ((((h.setCell hg _).setCell hg _).setCell hg _).setCell hg _).setCell hg _
theorem cell_mem {w : World} {a : Addr} {u : Value} {cs : Array Value} {T : TypeId} (h : w.cell? a = some u) (hb : w.heap[a.block]? = some (.cells cs T)) : u ∈ cs := by
  unfold World.cell? at h
  rw [hb] at h
  simp only at h
  split at h
  · cases h
  · exact Array.mem_of_getElem? h
theorem PR.far {w : World} {P : Nat → Sv} {X : Nat → List Int} (h : PR w P X) {g : Nat} {T : TypeId} {cs : Array Value} (hb : w.heap[g]? = some (.cells cs T)) (hs : ∀ u ∈ cs, ∃ A n c, u = .slice A n c) (i : Nat) (hi : i < 5) : ∀ ad, (P i).A = some ad → 0 < (P i).n → ad.block ≠ g := by
  rintro ad hA hn rfl
  obtain ⟨ad', e, hc⟩ := Kd.at_int (h i hi).C 0 (by omega) (by omega)
  rw [hA] at e
  cases e
  have hm := cell_mem hc (by rw [add_block]; exact hb)
  obtain ⟨A, n, c, hu⟩ := hs _ hm
  cases hu
theorem PR.set5 {w : World} {P : Nat → Sv} {X : Nat → List Int} (h : PR w P X) {g : Nat} (hf : ∀ i, i < 5 → ∀ ad, (P i).A = some ad → 0 < (P i).n → ad.block ≠ g) (v0 v1 v2 v3 v4 : Value) : PR (((((w.setCell ⟨g, 0, none⟩ v0).setCell ⟨g, 1, none⟩ v1).setCell ⟨g, 2, none⟩ v2).setCell ⟨g, 3, none⟩ v3).setCell ⟨g, 4, none⟩ v4) P X := fun i hi =>
  ⟨(h i hi).len, (h i hi).le, (h i hi).nil, Kd.C_keep (0 : Int) (h i hi).C ((((((KeepBut.refl w g none).set_ 0 v0).set_ 1 v1).set_ 2 v2).set_ 3 v3).set_ 4 v4) (hf i hi)⟩
theorem five_slices (P : Nat → Sv) : ∀ u ∈ (#[.slice (P 0).A (P 0).n (P 0).c, .slice (P 1).A (P 1).n (P 1).c, .slice (P 2).A (P 2).n (P 2).c, .slice (P 3).A (P 3).n (P 3).c, .slice (P 4).A (P 4).n (P 4).c] : Array Value), ∃ A n c, u = .slice A n c := by
  intro u hu
  simp only [List.mem_toArray, List.mem_cons, List.not_mem_nil, or_false] at hu
  rcases hu with rfl | rfl | rfl | rfl | rfl <;> exact ⟨_, _, _, rfl⟩
theorem nils_slices : ∀ u ∈ (#[.slice none 0 0, .slice none 0 0, .slice none 0 0, .slice none 0 0, .slice none 0 0] : Array Value), ∃ A n c, u = .slice A n c := five_slices nosv
def AfterPost (w : World) (n : Nat) (e : Ending) (w' : World) : Prop := ∃ (P : Nat → Sv) (X : Nat → List Int), e = .returned (.agg #[.slice (P 0).A (P 0).n (P 0).c, .slice (P 1).A (P 1).n (P 1).c, .slice (P 2).A (P 2).n (P 2).c, .slice (P 3).A (P 3).n (P 3).c, .slice (P 4).A (P 4).n (P 4).c]) ∧ PR w' P X ∧ total X ≤ n ∧ Below w.heap.size w w'
set_option maxHeartbeats 4000000 in
theorem after_calls (A : Option Addr) (n c : Nat) (w : World) (hA : ActsAt w A n) (hn : n ≤ 200) : Calls Try.prog 6 #[.slice A n c] w (AfterPost w n) := by
  have HA := Aside0.mk hA
  have HN := Aside0.mk hn
  clear hA hn
  go_enter Try.func6, Try.ntmps6
  go_wp2
  go_loopg [4] n (fun kq v4 w' => ∃ (i : Int) (P : Nat → Sv) (X : Nat → List Int), v4 = .int .i64 i ∧ 0 ≤ i ∧ i + (kq : Int) = n ∧ Aside0 (w'.heap[w.heap.size + 1]? = some (.cells #[.slice (P 0).A (P 0).n (P 0).c, .slice (P 1).A (P 1).n (P 1).c, .slice (P 2).A (P 2).n (P 2).c, .slice (P 3).A (P 3).n (P 3).c, .slice (P 4).A (P 4).n (P 4).c] 27)) ∧ Aside0 (w'.heap[w.heap.size]? = some (.cells #[.slice none 0 0, .slice none 0 0, .slice none 0 0, .slice none 0 0, .slice none 0 0] 27)) ∧ Aside0 (PR w' P X) ∧ Aside0 ((total X : Int) ≤ i) ∧ Below w.heap.size w w')
  case atStart => 
    refine ⟨0, nosv, no5, rfl, by omega, by omega, ⟨?_⟩, ⟨?_⟩, ⟨pr_none _⟩, ⟨by decide +kernel⟩, ?_⟩
    · have h := blk_new (w.alloc (.cells #[.slice none 0 0, .slice none 0 0, .slice none 0 0, .slice none 0 0, .slice none 0 0] 27)) (.cells #[.slice none 0 0, .slice none 0 0, .slice none 0 0, .slice none 0 0, .slice none 0 0] 27)
      rw [World.size_alloc] at h
      exact h
    · exact blk_alloc (blk_new _ _) _
    · exact ballo (ballo (Below.refl _ _) _) _
  case round =>
    obtain ⟨i, P, X, rfl, hi0, hik, HBx, HB0, HP, HT, hbel⟩ := hrel
    by_cases hlt : i < (n : Int)
    · have hd : decide (i < (n : Int)) = true := decide_eq_true hlt
      obtain ⟨gk, rfl⟩ : ∃ k, gk = k + 1 := ⟨gk - 1, by omega⟩
      obtain ⟨ad, ead, hc⟩ := (HA.out.below hbel) (by omega)
      have hlt0 := act_far HA.out (by omega) ead
      cases ead
      have hne : Aside0 (∀ j : Nat, (ad.add (i.toNat * 4)).block ≠ w.heap.size + 1) := ⟨fun j => by rw [add_block]; omega⟩
      obtain ⟨k, hk⟩ := hc i.toNat (by omega) 0 (by omega)
      obtain ⟨a, ha⟩ := hc i.toNat (by omega) 1 (by omega)
      obtain ⟨x, hx⟩ := hc i.toNat (by omega) 2 (by omega)
      obtain ⟨y, hy⟩ := hc i.toNat (by omega) 3 (by omega)
      obtain ⟨d0, d1, d2, d3, d4⟩ := blk5 HBx.out
      have df := blk_frozen HBx.out
      have p0 : (0 ≤ i) = True := eq_true hi0
      have q0 : (i < (n : Int)) = True := eq_true hlt
      rw [Nat.add_zero] at hk
      rw [add_field _ _ _ (by omega)] at ha hx hy
      have HI := Aside0.mk (And.intro hi0 (And.intro hik hlt))
      clear hi0 hik hlt hc hlt0
      by_cases e2 : k = 2
      · have b2 : (k == 2) = true := beq_iff_eq.2 e2
        clear e2
        go_wp2
        refine wp_region_tail 6 (by kernel_rfl) (by kernel_rfl) (fun _ _ _ _ _ h => h) ?_
        simp only [List.take_succ_cons, List.take_zero, List.drop_succ_cons, List.drop_zero]
        repeat still_step
        refine wpStill_nil ?_
        go_wp2_with fail
        refine (pop_any P X a _ (HP.out.below (below_drew (Below.refl _ _))) (by have := HT.out; have := HN.out; have := HI.out; omega)).mono ?_
        rintro e w2 ⟨P2, rfl, hP2, hB2⟩
        have hq := blk_below (blk_drew HBx.out) hB2
        obtain ⟨d0, d1, d2, d3, d4⟩ := blk5 hq
        have df := blk_frozen hq
        have HP2 := Aside0.mk hP2
        have HB2 := Aside0.mk hB2
        have HQ2 := Aside0.mk hq
        clear hP2 hB2 hq
        go_wp2_with fail
        go_roundg gk
        case measure => omega
        case rel =>
          obtain ⟨hi0, hik, hlt⟩ := HI.out
          have hn := HN.out
          have hb2 : Below w.heap.size w w2 := bthen (below_drew hbel) HB2.out
          refine ⟨i + 1, P2, popX X a, by rw [w64 (by omega) (by omega)], by omega, by omega, ⟨?_⟩, ⟨?_⟩, ⟨?_⟩, ⟨?_⟩, ?_⟩
          · exact set5_blk HQ2.out _ _ _ _ _ rfl
          · exact set5_oth (blk_below (blk_drew HB0.out) HB2.out) (by omega) _ _ _ _ _
          · exact HP2.out.set5 (HP2.out.far HQ2.out (five_slices P)) _ _ _ _ _
          · have h1 := HT.out
            have h2 := popX_total X a
            omega
          · exact below_set5 hb2 (by omega) _ _ _ _ _
      · have b2 : (k == 2) = false := beq_eq_false_iff_ne.2 e2
        clear e2
        go_wp2
        refine wp_region_tail 16 (by kernel_rfl) (by kernel_rfl) (fun _ _ _ _ _ h => h) ?_
        simp only [List.take_succ_cons, List.take_zero, List.drop_succ_cons, List.drop_zero]
        repeat still_step
        refine wpStill_nil ?_
        go_wp2_with fail
        refine (push_any P X a x y _ (HP.out.below (below_drew (Below.refl _ _))) (by have := HT.out; have := HN.out; have := HI.out; omega)).mono ?_
        rintro e w2 ⟨P2, rfl, hP2, hB2⟩
        have hq := blk_below (blk_drew HBx.out) hB2
        obtain ⟨d0, d1, d2, d3, d4⟩ := blk5 hq
        have df := blk_frozen hq
        have HP2 := Aside0.mk hP2
        have HB2 := Aside0.mk hB2
        have HQ2 := Aside0.mk hq
        clear hP2 hB2 hq
        go_wp2_with fail
        go_roundg gk
        case measure => omega
        case rel =>
          obtain ⟨hi0, hik, hlt⟩ := HI.out
          have hn := HN.out
          have hb2 : Below w.heap.size w w2 := bthen (below_drew hbel) HB2.out
          refine ⟨i + 1, P2, pushX X a x y, by rw [w64 (by omega) (by omega)], by omega, by omega, ⟨?_⟩, ⟨?_⟩, ⟨?_⟩, ⟨?_⟩, ?_⟩
          · exact set5_blk HQ2.out _ _ _ _ _ rfl
          · exact set5_oth (blk_below (blk_drew HB0.out) HB2.out) (by omega) _ _ _ _ _
          · exact HP2.out.set5 (HP2.out.far HQ2.out (five_slices P)) _ _ _ _ _
          · have h1 := HT.out
            have h2 := pushX_total X a x y
            omega
          · exact below_set5 hb2 (by omega) _ _ _ _ _
    · have hd : decide (i < (n : Int)) = false := decide_eq_false hlt
      obtain ⟨d0, d1, d2, d3, d4⟩ := blk5 HBx.out
      obtain ⟨e0, e1, e2, e3, e4⟩ := blk5 HB0.out
      have df := blk_frozen HB0.out
      have HI := Aside0.mk (And.intro hik hlt)
      clear hi0 hik hlt
      go_wp2
      refine bodyPost_ret (v := .agg #[.slice (P 0).A (P 0).n (P 0).c, .slice (P 1).A (P 1).n (P 1).c, .slice (P 2).A (P 2).n (P 2).c, .slice (P 3).A (P 3).n (P 3).c, .slice (P 4).A (P 4).n (P 4).c]) (by simp [results, Try.results6, go_sem, d0, d1, d2, d3, d4, e0, e1, e2, e3, e4]) rfl ⟨P, X, rfl, ?_, ?_, ?_⟩
      · exact HP.out.set5 (HP.out.far HB0.out nils_slices) _ _ _ _ _
      · have := HT.out; have := HI.out; omega
      · exact below_set5 hbel (Nat.le_refl _) _ _ _ _ _

end Go.Proofs.Ytmgphebhfecfmaa.X

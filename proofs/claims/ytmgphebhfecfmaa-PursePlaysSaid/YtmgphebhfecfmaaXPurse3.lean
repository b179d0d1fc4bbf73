/- A purse's functions at class 3, each by a contract, walked by hand. Conditions: none. -/
import Derived.Test.YtmgphebhfecfmaaXPurseB
namespace Go.Proofs.Ytmgphebhfecfmaa.X
open Go.RowKit Go.Proofs.YtmgphebhfecfmaaW.PrintWords
set_option linter.unusedVariables false
set_option linter.unusedSimpArgs false

set_option maxHeartbeats 1000000 in
theorem push_in3 (P : Nat → Sv) (X : Nat → List Int) (a limit : Int) (w : World) (h : PR w P X) (hl : ((X 3).length : Int) < limit) (hb : (X 3).length ≤ 1000000) : Calls Try.prog 7 #[.agg #[.slice (P 0).A (P 0).n (P 0).c, .slice (P 1).A (P 1).n (P 1).c, .slice (P 2).A (P 2).n (P 2).c, .slice (P 3).A (P 3).n (P 3).c, .slice (P 4).A (P 4).n (P 4).c], .int .i64 3, .int .i64 a, .int .i64 limit] w fun e w' => ∃ s', e = .returned (.tuple #[.agg #[.slice (P 0).A (P 0).n (P 0).c, .slice (P 1).A (P 1).n (P 1).c, .slice (P 2).A (P 2).n (P 2).c, .slice (s').A (s').n (s').c, .slice (P 4).A (P 4).n (P 4).c], .bool true]) ∧ PR w' (upd P 3 s') (upd X 3 (X 3 ++ [a])) ∧ Below w.heap.size w w' := by
  have h2 := h 3 (by omega)
  have b0 : decide (limit ≤ (((P 3).n : Nat) : Int)) = false := decide_eq_false (by rw [h2.len]; omega)
  have hle : (P 3).n ≤ (P 3).c := h2.le
  have H := Aside0.mk h
  have H2 := Aside0.mk h2
  have HB := Aside0.mk hb
  have hm := h2.len
  have HN : Aside0 ((P 3).n = (X 3).length) := ⟨hm⟩
  have HW := Aside0.mk (Below.refl w.heap.size w)
  clear h h2 hl hb hm
  obtain ⟨i0, hi, hz⟩ := Option.map_eq_some_iff.1 info3
  simp only [Prod.mk.injEq] at hz
  obtain ⟨hz0, hz1, hz2⟩ := hz
  have hi' := Aside0.mk hi
  have hz0' := Aside0.mk hz0
  have hz1' := Aside0.mk hz1
  have hz2' := Aside0.mk hz2
  clear hi hz0 hz1 hz2
  go_enter Try.func7, Try.ntmps7
  go_wp2_with (first
    | (go_at_call 18; refine (none_calls _ false _ (by decide)).mono ?_; rintro e w1 ⟨rfl, rfl⟩)
    | (at_builtin; refine wpList_append_grows _ rfl (.tmp 33) (.tmp 35) 24 rfl 3 i0 (.int .i64 0) 1 8 Try.underlying24 hi'.out hz0'.out hz1'.out hz2'.out rfl (by decide) (P 3).A (P 3).n (P 3).n ((X 3).map (Value.int .i64)) rfl (fun hA => ⟨(H2.out.nil hA).1, (H2.out.nil hA).1⟩) (by rw [List.length_map, HN.out, Nat.mul_one]) (((H2.out.below (HW.out.alloc (Nat.le_refl _) _)).below ((Below.refl _ _).alloc (Nat.le_refl _) _)).below ((Below.refl _ _).alloc (Nat.le_refl _) _)).cells ⟨w.heap.size + 1 + 1, 0, none⟩ 1 1 [.int .i64 a] rfl rfl (fun j u hj => one_at j u hj (new_at w _ _ _)) (one_one _) (by omega) (by have := HN.out; have := HB.out; unfold maxLen; omega) (by have := HN.out; have := HB.out; omega) ?_; intro v1 w1 hown hgrow; obtain ⟨s', rfl, hs', ha'⟩ := sl_own (xs := X 3 ++ [a]) (by rw [List.map_append]; exact hown) (by rw [List.length_append, HN.out]; rfl); have HS := Aside0.mk (And.intro hs' ha'); have HG := Aside0.mk hgrow; have oc := old_cells hgrow; have d0 := (blk_cell oc.1 0 : _ = some _); have d1 := (blk_cell oc.1 1 : _ = some _); have d2 := (blk_cell oc.1 2 : _ = some _); have d3 := (blk_cell oc.1 3 : _ = some _); have d4 := (blk_cell oc.1 4 : _ = some _); have f2 := blk_frozen oc.1; have e0 := (blk_cell oc.2 0 : _ = some _); have e1 := (blk_cell oc.2 1 : _ = some _); have e2 := (blk_cell oc.2 2 : _ = some _); have e3 := (blk_cell oc.2 3 : _ = some _); have e4 := (blk_cell oc.2 4 : _ = some _); have f3 := blk_frozen oc.2; clear hs' ha' hown hgrow oc))
  refine bodyPost_ret (v := .tuple #[.agg #[.slice (P 0).A (P 0).n (P 0).c, .slice (P 1).A (P 1).n (P 1).c, .slice (P 2).A (P 2).n (P 2).c, .slice (s').A (s').n (s').c, .slice (P 4).A (P 4).n (P 4).c], .bool true]) (by simp [results, Try.results7, go_sem, d0, d1, d2, d3, d4, e0, e1, e2, e3, e4]) rfl ?_
  have hbl : Below w.heap.size w w1 := ((((Below.refl w.heap.size w).alloc (Nat.le_refl _) _).alloc (by simp only [World.size_alloc]; omega) _).alloc (by simp only [World.size_alloc]; omega) _).trans ((below_grown HG.out).mono (by simp only [World.size_alloc]; omega))
  have hfar : ∀ b, s'.A = some b → b.block ≠ w.heap.size ∧ b.block ≠ w.heap.size + 1 := fun b hb => by have := HS.out.2 b hb; simp only [World.size_alloc] at this; omega
  refine ⟨s', rfl, ?_, ?_⟩
  · refine PR.upd H.out ?_ 3 ?_
    · repeat (first | (with_reducible exact hbl) | refine Below.setCell ?_ (by first | exact Nat.le_refl _ | exact Nat.le_succ _) _)
    · repeat (first | (with_reducible exact HS.out.1) | refine Sl.set ?_ (fun b hb => (hfar b hb).2) _ _ | refine Sl.set ?_ (fun b hb => (hfar b hb).1) _ _)
  · repeat (first | (with_reducible exact hbl) | refine Below.setCell ?_ (by first | exact Nat.le_refl _ | exact Nat.le_succ _) _)
set_option maxHeartbeats 1000000 in
theorem push_full3 (P : Nat → Sv) (X : Nat → List Int) (a limit : Int) (w : World) (h : PR w P X) (hl : limit ≤ ((X 3).length : Int)) : Calls Try.prog 7 #[.agg #[.slice (P 0).A (P 0).n (P 0).c, .slice (P 1).A (P 1).n (P 1).c, .slice (P 2).A (P 2).n (P 2).c, .slice (P 3).A (P 3).n (P 3).c, .slice (P 4).A (P 4).n (P 4).c], .int .i64 3, .int .i64 a, .int .i64 limit] w fun e w' => e = .returned (.tuple #[.agg #[.slice (P 0).A (P 0).n (P 0).c, .slice (P 1).A (P 1).n (P 1).c, .slice (P 2).A (P 2).n (P 2).c, .slice (P 3).A (P 3).n (P 3).c, .slice (P 4).A (P 4).n (P 4).c], .bool false]) ∧ Below w.heap.size w w' := by
  have h2 := h 3 (by omega)
  have b0 : decide (limit ≤ (((P 3).n : Nat) : Int)) = true := decide_eq_true (by rw [h2.len]; omega)
  clear h2 hl
  go_enter Try.func7, Try.ntmps7
  go_wp2_with (first
    | (go_at_call 18; refine (none_calls _ false _ (by decide)).mono ?_; rintro e w1 ⟨rfl, rfl⟩))
  refine bodyPost_ret (v := .tuple #[.agg #[.slice (P 0).A (P 0).n (P 0).c, .slice (P 1).A (P 1).n (P 1).c, .slice (P 2).A (P 2).n (P 2).c, .slice (P 3).A (P 3).n (P 3).c, .slice (P 4).A (P 4).n (P 4).c], .bool false]) (by simp [results, Try.results7, go_sem]) rfl ⟨rfl, ?_⟩
  repeat (first | (with_reducible exact Below.refl _ _) | refine Below.setCell ?_ (by first | exact Nat.le_refl _ | exact Nat.le_succ _) _ | refine Below.alloc ?_ (by first | exact Nat.le_refl _ | exact Nat.le_succ _ | simp) _)

theorem len_in3 (P : Nat → Sv) (X : Nat → List Int) (w : World) (h : PR w P X) : Calls Try.prog 17 #[.agg #[.slice (P 0).A (P 0).n (P 0).c, .slice (P 1).A (P 1).n (P 1).c, .slice (P 2).A (P 2).n (P 2).c, .slice (P 3).A (P 3).n (P 3).c, .slice (P 4).A (P 4).n (P 4).c], .int .i64 3] w fun e w' => e = .returned (.int .i64 ((X 3).length : Int)) ∧ Below w.heap.size w w' := by
  rw [← (h 3 (by omega)).len]
  clear h
  go_enter Try.func17, Try.ntmps17
  go_wp2_with (first
    | (go_at_call 18; refine (none_calls _ false _ (by decide)).mono ?_; rintro e w1 ⟨rfl, rfl⟩))
  go_ret
  refine ⟨rfl, ?_⟩
  repeat (first | (with_reducible exact Below.refl _ _) | refine Below.setCell ?_ (by first | exact Nat.le_refl _ | exact Nat.le_succ _) _ | refine Below.alloc ?_ (by first | exact Nat.le_refl _ | exact Nat.le_succ _ | simp) _ | apply Below.drew | apply pw_below_drewN)
theorem list_in3 (P : Nat → Sv) (X : Nat → List Int) (w : World) (h : PR w P X) (hb : (X 3).length ≤ 1000000) : Calls Try.prog 22 #[.agg #[.slice (P 0).A (P 0).n (P 0).c, .slice (P 1).A (P 1).n (P 1).c, .slice (P 2).A (P 2).n (P 2).c, .slice (P 3).A (P 3).n (P 3).c, .slice (P 4).A (P 4).n (P 4).c], .int .i64 3] w fun e w' => ∃ s', e = .returned (.slice s'.A s'.n s'.c) ∧ Sl w' s' (X 3) ∧ Below w.heap.size w w' := by
  have H2 := Aside0.mk (h 3 (by omega))
  have HB := Aside0.mk hb
  clear h hb
  go_enter Try.func22, Try.ntmps22
  go_wp2_with (first
    | (go_at_call 18; refine (none_calls _ false _ (by decide)).mono ?_; rintro e w1 ⟨rfl, rfl⟩)
    | (go_at_call 25; refine (clone_calls _ (X 3) _ (H2.out.below ((Below.refl _ _).alloc (Nat.le_refl _) _)) HB.out).mono ?_; rintro e w1 ⟨s', rfl, hs, hB⟩))
  go_ret
  exact ⟨s', rfl, hs, ((Below.refl w.heap.size w).alloc (Nat.le_refl _) _).trans (hB.mono (by simp only [World.size_alloc]; omega))⟩
theorem pop_empty3 (P : Nat → Sv) (X : Nat → List Int) (w : World) (h : PR w P X) (hx : (X 3).length = 0) : Calls Try.prog 10 #[.agg #[.slice (P 0).A (P 0).n (P 0).c, .slice (P 1).A (P 1).n (P 1).c, .slice (P 2).A (P 2).n (P 2).c, .slice (P 3).A (P 3).n (P 3).c, .slice (P 4).A (P 4).n (P 4).c], .int .i64 3] w fun e w' => e = .returned (.tuple #[.agg #[.slice (P 0).A (P 0).n (P 0).c, .slice (P 1).A (P 1).n (P 1).c, .slice (P 2).A (P 2).n (P 2).c, .slice (P 3).A (P 3).n (P 3).c, .slice (P 4).A (P 4).n (P 4).c], .int .i64 0, .bool false]) ∧ Below w.heap.size w w' := by
  have H := Aside0.mk h
  have HX := Aside0.mk hx
  clear h hx
  go_enter Try.func10, Try.ntmps10
  go_wp2_with (first
    | (go_at_call 17; refine (len_in3 P X _ ((H.out.below ((Below.refl _ _).alloc (Nat.le_refl _) _)).below ((Below.refl _ _).alloc (Nat.le_refl _) _))).mono ?_; rintro e w1 ⟨rfl, hb⟩; rw [HX.out]; have oc := two_cells hb; have d0 := (blk_cell oc.1 0 : _ = some _); have d1 := (blk_cell oc.1 1 : _ = some _); have d2 := (blk_cell oc.1 2 : _ = some _); have d3 := (blk_cell oc.1 3 : _ = some _); have d4 := (blk_cell oc.1 4 : _ = some _); have f2 := blk_frozen oc.1; have e0 := (blk_cell oc.2 0 : _ = some _); have e1 := (blk_cell oc.2 1 : _ = some _); have e2 := (blk_cell oc.2 2 : _ = some _); have e3 := (blk_cell oc.2 3 : _ = some _); have e4 := (blk_cell oc.2 4 : _ = some _); have f3 := blk_frozen oc.2; clear oc))
  refine bodyPost_ret (v := .tuple #[.agg #[.slice (P 0).A (P 0).n (P 0).c, .slice (P 1).A (P 1).n (P 1).c, .slice (P 2).A (P 2).n (P 2).c, .slice (P 3).A (P 3).n (P 3).c, .slice (P 4).A (P 4).n (P 4).c], .int .i64 0, .bool false]) (by simp [results, Try.results10, go_sem, d0, d1, d2, d3, d4, e0, e1, e2, e3, e4]) rfl ⟨rfl, ?_⟩
  have hbl : Below w.heap.size w w1 := (((Below.refl w.heap.size w).alloc (Nat.le_refl _) _).alloc (by simp only [World.size_alloc]; omega) _).trans (hb.mono (by simp only [World.size_alloc]; omega))
  repeat (first | (with_reducible exact hbl) | refine Below.setCell ?_ (by first | exact Nat.le_refl _ | exact Nat.le_succ _) _)
set_option maxHeartbeats 1000000 in
theorem pop_walk3 (P : Nat → Sv) (ad : Addr) (m k : Nat) (x : Int) (w : World) (hcl : w.cell? (ad.add m) = some (.int .i64 x)) (hle : m + 1 ≤ k) (hm : m ≤ 1000000) (hlen : ∀ w' : World, Below w.heap.size w w' → Calls Try.prog 17 #[.agg #[.slice (P 0).A (P 0).n (P 0).c, .slice (P 1).A (P 1).n (P 1).c, .slice (P 2).A (P 2).n (P 2).c, .slice (some ad) (m + 1) (k), .slice (P 4).A (P 4).n (P 4).c], .int .i64 3] w' fun e w2 => e = .returned (.int .i64 ((m : Int) + 1)) ∧ Below w'.heap.size w' w2) : Calls Try.prog 10 #[.agg #[.slice (P 0).A (P 0).n (P 0).c, .slice (P 1).A (P 1).n (P 1).c, .slice (P 2).A (P 2).n (P 2).c, .slice (some ad) (m + 1) (k), .slice (P 4).A (P 4).n (P 4).c], .int .i64 3] w fun e w' => e = .returned (.tuple #[.agg #[.slice (P 0).A (P 0).n (P 0).c, .slice (P 1).A (P 1).n (P 1).c, .slice (P 2).A (P 2).n (P 2).c, .slice (some ad) (m) (m), .slice (P 4).A (P 4).n (P 4).c], .int .i64 x, .bool true]) ∧ Below w.heap.size w w' := by
  have HL := Aside0.mk hlen
  have HC := Aside0.mk hcl
  clear hlen hcl
  go_enter Try.func10, Try.ntmps10
  go_wp2_with (first
    | (go_at_call 17; refine (HL.out _ (((Below.refl _ _).alloc (Nat.le_refl _) _).alloc (by simp only [World.size_alloc]; omega) _)).mono ?_; rintro e w1 ⟨rfl, hb⟩; have oc := two_cells hb; have d0 := (blk_cell oc.1 0 : _ = some _); have d1 := (blk_cell oc.1 1 : _ = some _); have d2 := (blk_cell oc.1 2 : _ = some _); have d3 := (blk_cell oc.1 3 : _ = some _); have d4 := (blk_cell oc.1 4 : _ = some _); have f2 := blk_frozen oc.1; have e0 := (blk_cell oc.2 0 : _ = some _); have e1 := (blk_cell oc.2 1 : _ = some _); have e2 := (blk_cell oc.2 2 : _ = some _); have e3 := (blk_cell oc.2 3 : _ = some _); have e4 := (blk_cell oc.2 4 : _ = some _); have f3 := blk_frozen oc.2; clear oc))
  have hbl : Below w.heap.size w w1 := (((Below.refl w.heap.size w).alloc (Nat.le_refl _) _).alloc (by simp only [World.size_alloc]; omega) _).trans (hb.mono (by simp only [World.size_alloc]; omega))
  have hx := (pw_cell_below hbl HC.out)
  have hlt := World.block_lt_of_cell? w _ HC.out
  rw [add_block] at hlt
  have hfar : ad.block ≠ w.heap.size := by omega
  have p0 : (0 : Int) ≤ (m : Int) := by omega
  have p1 : (m : Int) < (m : Int) + 1 := by omega
  have hx2 : (w1.setCell ⟨w.heap.size, 3, none⟩ (.slice (some ad) m m)).cell? (ad.add m) = some (.int .i64 x) := (cell_far (by rw [add_block]; exact hfar) _).trans hx
  have D0 : (w1.setCell ⟨w.heap.size, 3, none⟩ (.slice (some ad) m m)).cell? ⟨w.heap.size, 0, none⟩ = some _ := (World.cell?_setCell_other _ _ _ _ (by simp)).trans d0
  have D1 : (w1.setCell ⟨w.heap.size, 3, none⟩ (.slice (some ad) m m)).cell? ⟨w.heap.size, 1, none⟩ = some _ := (World.cell?_setCell_other _ _ _ _ (by simp)).trans d1
  have D2 : (w1.setCell ⟨w.heap.size, 3, none⟩ (.slice (some ad) m m)).cell? ⟨w.heap.size, 2, none⟩ = some _ := (World.cell?_setCell_other _ _ _ _ (by simp)).trans d2
  have D3 : (w1.setCell ⟨w.heap.size, 3, none⟩ (.slice (some ad) m m)).cell? ⟨w.heap.size, 3, none⟩ = some _ := World.cell?_setCell_same _ _ _ d3
  have D4 : (w1.setCell ⟨w.heap.size, 3, none⟩ (.slice (some ad) m m)).cell? ⟨w.heap.size, 4, none⟩ = some _ := (World.cell?_setCell_other _ _ _ _ (by simp)).trans d4
  have hfar2 : ad.block ≠ w.heap.size + 1 := by omega
  have hx3 : ((((((w1.setCell ⟨w.heap.size, 3, none⟩ (.slice (some ad) m m)).setCell ⟨w.heap.size + 1, 0, none⟩ (.slice (P 0).A (P 0).n (P 0).c)).setCell ⟨w.heap.size + 1, 1, none⟩ (.slice (P 1).A (P 1).n (P 1).c)).setCell ⟨w.heap.size + 1, 2, none⟩ (.slice (P 2).A (P 2).n (P 2).c)).setCell ⟨w.heap.size + 1, 3, none⟩ (.slice (some ad) m m)).setCell ⟨w.heap.size + 1, 4, none⟩ (.slice (P 4).A (P 4).n (P 4).c)).cell? (ad.add m) = some (.int .i64 x) := ((cell_far (by rw [add_block]; exact hfar2) _).trans ((cell_far (by rw [add_block]; exact hfar2) _).trans ((cell_far (by rw [add_block]; exact hfar2) _).trans ((cell_far (by rw [add_block]; exact hfar2) _).trans ((cell_far (by rw [add_block]; exact hfar2) _).trans hx2)))))
  have HB1 := Aside0.mk hbl
  clear hbl hx hlt hfar hfar2 hb
  go_region
  all_goals
    go_wp2
    refine bodyPost_ret (v := .tuple #[.agg #[.slice (P 0).A (P 0).n (P 0).c, .slice (P 1).A (P 1).n (P 1).c, .slice (P 2).A (P 2).n (P 2).c, .slice (some ad) (m) (m), .slice (P 4).A (P 4).n (P 4).c], .int .i64 x, .bool true]) (by simp [results, Try.results10, go_sem, d0, d1, d2, d3, d4, e0, e1, e2, e3, e4]) rfl ⟨rfl, ?_⟩
    repeat (first | (with_reducible exact HB1.out) | refine Below.setCell ?_ (by first | exact Nat.le_refl _ | exact Nat.le_succ _) _ | apply Below.drew)
set_option maxHeartbeats 1000000 in
theorem pop_in3 (P : Nat → Sv) (X : Nat → List Int) (w : World) (h : PR w P X) (hx : 0 < (X 3).length) (hb : (X 3).length ≤ 1000000) : Calls Try.prog 10 #[.agg #[.slice (P 0).A (P 0).n (P 0).c, .slice (P 1).A (P 1).n (P 1).c, .slice (P 2).A (P 2).n (P 2).c, .slice (P 3).A (P 3).n (P 3).c, .slice (P 4).A (P 4).n (P 4).c], .int .i64 3] w fun e w' => ∃ s', e = .returned (.tuple #[.agg #[.slice (P 0).A (P 0).n (P 0).c, .slice (P 1).A (P 1).n (P 1).c, .slice (P 2).A (P 2).n (P 2).c, .slice (s').A (s').n (s').c, .slice (P 4).A (P 4).n (P 4).c], .int .i64 (rd (X 3) (((X 3).length : Int) - 1)), .bool true]) ∧ PR w' (upd P 3 s') (upd X 3 ((X 3).take ((X 3).length - 1))) ∧ Below w.heap.size w w' := by
  have h2 := h 3 (by omega)
  obtain ⟨ad, eA, hcl⟩ := Kd.at_int h2.C (((X 3).length : Int) - 1) (by omega) (by rw [h2.len]; omega)
  have hn := h2.len
  have hle : (P 3).n ≤ (P 3).c := h2.le
  have hpos : 1 ≤ (P 3).n := by omega
  have hmax : (P 3).n ≤ 1000000 := by omega
  rw [show (((X 3).length : Int) - 1).toNat = (P 3).n - 1 by omega] at hcl
  have HT := Aside0.mk (Kd.C_take (m := (X 3).length - 1) (show Kd.C (Kd.int .i64) w (P 3).A (X 3).length (X 3) from by rw [← hn]; exact h2.C) (by omega))
  obtain ⟨x, HX⟩ : ∃ x, Aside0 (rd (X 3) (((X 3).length : Int) - 1) = x) := ⟨_, ⟨rfl⟩⟩
  rw [HX.out] at hcl ⊢
  have H := Aside0.mk h
  have HB := Aside0.mk hb
  have HN : Aside0 ((P 3).n = (X 3).length) := ⟨hn⟩
  have HNE : Aside0 ((P 3).A = some ad) := ⟨eA⟩
  obtain ⟨m, HM⟩ : ∃ m : Nat, (P 3).n = m + 1 := ⟨(P 3).n - 1, by omega⟩
  rw [HM] at hcl hle hmax
  rw [show m + 1 - 1 = m by omega] at hcl
  have hxl : (X 3).length = m + 1 := by rw [← hn, HM]
  rw [HM, eA]
  refine (pop_walk3 P ad m (P 3).c x w hcl hle (by omega) (fun w' hB' => by
    have hq := len_in3 P X w' (H.out.below hB')
    rw [HM, eA, hxl] at hq
    exact hq)).mono ?_
  rintro e w' ⟨rfl, hB⟩
  refine ⟨⟨some ad, m, m⟩, rfl, PR.upd H.out hB 3 ⟨?_, Nat.le_refl _, (fun hh => nomatch hh), ?_⟩, hB⟩
  · rw [List.length_take]; change m = _; omega
  · have := HT.out
    rw [eA] at this
    change Kd.C (Kd.int .i64) w' (some ad) m _
    have e2 : ((X 3).take ((X 3).length - 1)).length = m := by rw [List.length_take]; omega
    rw [e2] at this
    exact Kd.C_below this hB

end Go.Proofs.Ytmgphebhfecfmaa.X

/- The reference's Pop, walked by hand. Conditions: none. -/
import Derived.Test.YtmgphebhfecfmaaXRefP
import Derived.Deep.RegionHeld3
import Derived.IntWalk
namespace Go.Proofs.Ytmgphebhfecfmaa.X
open Go.RowKit Go.Proofs.Ytmgphebhfecfmaa.PPursePlays Go.Proofs.YtmgphebhfecfmaaW.PrintWords Go.Proofs.YtmgphebhfecfmaaW.PrintLast Go.Proofs.YtmgphebhfecfmaaW.PrintMore
set_option linter.unusedVariables false
set_option linter.unusedSimpArgs false

theorem info55 : (Try.prog.info? 55).map (fun i => (i.zero, i.size, i.bytes)) = some (some (.agg #[.int .i64 0, .int .i64 0]), 2, 16) := by kernel_rfl
theorem below_set1 {B : Nat} {a w : World} {g i : Nat} (h : Below B a w) (hg : B ≤ g) (v : Value) : Below B a (w.setCell ⟨g, i, none⟩ v) := h.setCell hg _
theorem rows55 {w : World} {A : Option Addr} {n : Nat} {xs : List S55} (h : Kd.C k55 w A n xs) : ReadsRow (fun p cs => cs = [.int .i64 p.f0, .int .i64 p.f1]) 2 w A n xs :=
  ReadsRow.imp_ h (Below.refl _ _) (fun p c hp => k55_open hp)
theorem own_two {w : World} {W1 W2 W3 : Obj} {v1 : Value} (hat : v1.ownBlock = (Value.slice (some ⟨w.heap.size + 1 + 1, 0, none⟩) 0 0).ownBlock ∨ ∃ b, v1.ownBlock = some b ∧ ((((w.alloc W1).alloc W2).alloc W3).drew).heap.size ≤ b) : ∀ k, v1.ownBlock = some k → w.heap.size + 1 + 1 ≤ k := by
  intro k hk
  rcases hat with h | ⟨b, h, hb⟩
  · rw [hk] at h; simp [Value.ownBlock] at h; omega
  · rw [hk] at h
    cases h
    change (((w.alloc W1).alloc W2).alloc W3).heap.size ≤ _ at hb
    simp only [World.size_alloc] at hb
    omega
theorem q55 (q : Nat) (hq : q ∈ 55 :: k55.E) : q ≠ 40 := by
  rcases List.mem_cons.1 hq with rfl | hq
  · decide
  · exact absurd hq (by simp [k55, Kd.iso, Kd.pair, Kd.int, Kd.scalar])
def RPopPost (w0 w : World) (v : Value) (L : List S55) (c : Int) (e : Ending) (w' : World) : Prop := ∃ v' : Value, e = .returned (.tuple #[.agg #[v'], .int .i64 (rpopV L c), .bool (rpopOk L c)]) ∧ Kd.R k55 55 w' w0.heap.size (fun _ => True) v' (rpopL L c) ∧ Below w0.heap.size w0 w' ∧ Below w.heap.size w w'
set_option maxHeartbeats 4000000 in
theorem rpop_calls (v : Value) (L : List S55) (c : Int) (w0 w : World) (hB : Below w0.heap.size w0 w) (h : Kd.R k55 55 w w0.heap.size (fun _ => True) v L) (hl : L.length ≤ 1000) : Calls Try.prog 12 #[.agg #[v], .int .i64 c] w (RPopPost w0 w v L c) := by
  obtain ⟨A, c0, rfl, hc0, hC⟩ := Kd.R_reads h
  have HC := Aside0.mk hC
  have HB := Aside0.mk hB
  have HR := Aside0.mk h
  have HL := Aside0.mk hl
  have HC0 := Aside0.mk hc0
  clear hC hB h hl hc0
  go_enter Try.func12, Try.ntmps12
  go_wp2
  go_loopg [7] L.length (fun kq v7 w' => ∃ (i : Int), v7 = .int .i64 i ∧ i + 1 = (kq : Int) ∧ kq ≤ L.length ∧ Aside0 (lastI L c L.length = lastI L c kq) ∧ w' = (w.alloc (.cells #[.slice A L.length c0] 40)).alloc (.cells #[.slice none 0 0] 40))
  case atStart => exact ⟨(L.length : Int) - 1, by rw [w64 (by omega) (by have := HL.out; omega)], by omega, Nat.le_refl _, ⟨rfl⟩, rfl⟩
  case round =>
    obtain ⟨i, rfl, hik, hkl, HI, rfl⟩ := hrel
    cases gk with
    | zero =>
      have hd : decide (0 ≤ i) = false := decide_eq_false (by omega)
      have HV : Aside0 (rpopV L c = 0 ∧ rpopOk L c = false ∧ rpopL L c = L) := ⟨by unfold rpopV rpopOk rpopL; rw [HI.out]; exact ⟨rfl, rfl, rfl⟩⟩
      clear hik hkl HI
      go_wp2
      refine bodyPost_ret (v := .tuple #[.agg #[.slice A L.length c0], .int .i64 0, .bool false]) (by simp [results, Try.results12, go_sem]) rfl ?_
      refine ⟨.slice A L.length c0, by rw [HV.out.1, HV.out.2.1], ?_, ?_, ?_⟩
      · rw [HV.out.2.2]
        exact Kd.R_below HR.out (ballo (ballo (Below.refl _ _) _) _)
      · exact (HB.out.alloc HB.out.size _).alloc (by have := HB.out.size; simp only [World.size_alloc]; omega) _
      · exact ballo (ballo (Below.refl _ _) _) _
    | succ j =>
      obtain rfl : i = (j : Int) := by omega
      have hd : decide (0 ≤ (j : Int)) = true := decide_eq_true (by omega)
      obtain ⟨ad, eA, h0, h1⟩ := at_T55 HC.out (j : Int) (by omega) (by omega)
      cases eA
      rw [Int.toNat_natCast, show rd_T55 L (j : Int) = L.getD j z55 from rfl] at h0 h1
      obtain ⟨y, HY⟩ : ∃ y, Aside0 ((L.getD j z55).f0 = y) := ⟨_, ⟨rfl⟩⟩
      obtain ⟨x, HX⟩ : ∃ x, Aside0 ((L.getD j z55).f1 = x) := ⟨_, ⟨rfl⟩⟩
      rw [HY.out] at h0
      rw [HX.out] at h1
      have p0 : (0 : Int) ≤ (j : Int) := by omega
      have p1 : (j : Int) < (L.length : Int) := by omega
      have HK := Aside0.mk hkl
      have hW : Below w.heap.size w ((w.alloc (.cells #[.slice (some ad) L.length c0] 40)).alloc (.cells #[.slice none 0 0] 40)) := ballo (ballo (Below.refl _ _) _) _
      have g0 : ((w.alloc (.cells #[.slice (some ad) L.length c0] 40)).alloc (.cells #[.slice none 0 0] 40)).cell? ⟨w.heap.size, 0, none⟩ = some (.slice (some ad) L.length c0) := blk_cell (blk_alloc (blk_new w _) _) 0
      have g1 := pw_cell_below hW h1
      have g2 := pw_cell_below hW h0
      clear hW
      by_cases e : y = c
      · have b0 : (y == c) = true := beq_iff_eq.2 e
        have HE := Aside0.mk e
        clear e hik hkl
        have hj0 : ((j : Int)).toNat = j := Int.toNat_natCast j
        have hj1 : (j : Int) + 1 ≤ (L.length : Int) := by have := HK.out; omega
        have hj2 : j ≤ L.length := by have := HK.out; omega
        have hj3 : j + 1 ≤ L.length := HK.out
        have hc0 : L.length ≤ c0 := HC0.out
        have hj4 : j ≤ c0 := Nat.le_trans hj2 hc0
        have hj5 : (0 : Int) ≤ (j : Int) + 1 := by omega
        have hj6 : ((j : Int) + 1).toNat = j + 1 := by omega
        have hw : IntKind.i64.wrap ((j : Int) + 1) = (j : Int) + 1 := IntWalk.i64_in _ (by have := HL.out; have := HK.out; omega)
        go_wp2_with fail
        refine wp_region_held_drew (S := fun w' => w'.cell? ⟨w.heap.size, 0, none⟩ = some (.slice (some ad) L.length c0) ∧ w'.cell? ⟨(ad.add (j * 2)).block, (ad.add (j * 2)).off + 1, none⟩ = some (.int .i64 x)) (by kernel_rfl) (by first | exact ⟨g0, g1⟩ | (dsimp only; exact ⟨g0, g1⟩)) (fun hS => ?_)
        refine wpAnyH_take (i := 1) (v := ?_) rfl (by kernel_rfl) (by kernel_rfl) (by kernel_rfl) (fun _ _ _ h => h) (Or.inl ⟨by rfl, ?_⟩) hS ?_
        rotate_left
        · intro wS hW; (try dsimp only at hW); obtain ⟨W0, W1⟩ := hW; go_simp; (try with_reducible rfl)
        try simp only [List.getElem_toArray, List.getElem_cons_zero, List.getElem_cons_succ, Act.put, List.setIfInBounds_toArray, List.set_cons_zero, List.set_cons_succ]
        refine wpAnyH_take (i := 2) (v := ?_) rfl (by kernel_rfl) (by kernel_rfl) (by kernel_rfl) (fun _ _ _ h => h) (Or.inl ⟨by rfl, ?_⟩) hS ?_
        rotate_left
        · intro wS hW; (try dsimp only at hW); obtain ⟨W0, W1⟩ := hW; go_simp; (try with_reducible rfl)
        try simp only [List.getElem_toArray, List.getElem_cons_zero, List.getElem_cons_succ, Act.put, List.setIfInBounds_toArray, List.set_cons_zero, List.set_cons_succ]
        refine wpAnyH_take (i := 3) (v := ?_) rfl (by kernel_rfl) (by kernel_rfl) (by kernel_rfl) (fun _ _ _ h => h) (Or.inl ⟨by rfl, ?_⟩) hS ?_
        rotate_left
        · intro wS hW; (try dsimp only at hW); obtain ⟨W0, W1⟩ := hW; go_simp; (try with_reducible rfl)
        try simp only [List.getElem_toArray, List.getElem_cons_zero, List.getElem_cons_succ, Act.put, List.setIfInBounds_toArray, List.set_cons_zero, List.set_cons_succ]
        refine wpAnyH_take (i := 4) (v := ?_) rfl (by kernel_rfl) (by kernel_rfl) (by kernel_rfl) (fun _ _ _ h => h) (Or.inl ⟨by rfl, ?_⟩) hS ?_
        rotate_left
        · intro wS hW; (try dsimp only at hW); obtain ⟨W0, W1⟩ := hW; go_simp; (try with_reducible rfl)
        try simp only [List.getElem_toArray, List.getElem_cons_zero, List.getElem_cons_succ, Act.put, List.setIfInBounds_toArray, List.set_cons_zero, List.set_cons_succ]
        refine wpAnyH_take (i := 6) (v := ?_) rfl (by kernel_rfl) (by kernel_rfl) (by kernel_rfl) (fun _ _ _ h => h) (Or.inl ⟨by rfl, ?_⟩) hS ?_
        rotate_left
        · intro wS hW; (try dsimp only at hW); obtain ⟨W0, W1⟩ := hW; go_simp; (try with_reducible rfl)
        try simp only [List.getElem_toArray, List.getElem_cons_zero, List.getElem_cons_succ, Act.put, List.setIfInBounds_toArray, List.set_cons_zero, List.set_cons_succ]
        refine wpAnyH_take (i := 7) (v := ?_) rfl (by kernel_rfl) (by kernel_rfl) (by kernel_rfl) (fun _ _ _ h => h) (Or.inl ⟨by rfl, ?_⟩) hS ?_
        rotate_left
        · intro wS hW; (try dsimp only at hW); obtain ⟨W0, W1⟩ := hW; go_simp; (try with_reducible rfl)
        try simp only [List.getElem_toArray, List.getElem_cons_zero, List.getElem_cons_succ, Act.put, List.setIfInBounds_toArray, List.set_cons_zero, List.set_cons_succ]
        refine wpAnyH_take (i := 8) (v := ?_) rfl (by kernel_rfl) (by kernel_rfl) (by kernel_rfl) (fun _ _ _ h => h) (Or.inl ⟨by rfl, ?_⟩) hS ?_
        rotate_left
        · intro wS hW; (try dsimp only at hW); obtain ⟨W0, W1⟩ := hW; go_simp; (try with_reducible rfl)
        try simp only [List.getElem_toArray, List.getElem_cons_zero, List.getElem_cons_succ, Act.put, List.setIfInBounds_toArray, List.set_cons_zero, List.set_cons_succ]
        refine wpAnyH_take (i := 9) (v := ?_) rfl (by kernel_rfl) (by kernel_rfl) (by kernel_rfl) (fun _ _ _ h => h) (Or.inl ⟨by rfl, ?_⟩) hS ?_
        rotate_left
        · intro wS hW; (try dsimp only at hW); obtain ⟨W0, W1⟩ := hW; go_simp; (try with_reducible rfl)
        try simp only [List.getElem_toArray, List.getElem_cons_zero, List.getElem_cons_succ, Act.put, List.setIfInBounds_toArray, List.set_cons_zero, List.set_cons_succ]
        refine wpAnyH_take (i := 10) (v := ?_) rfl (by kernel_rfl) (by kernel_rfl) (by kernel_rfl) (fun _ _ _ h => h) (Or.inl ⟨by rfl, ?_⟩) hS ?_
        rotate_left
        · intro wS hW; (try dsimp only at hW); obtain ⟨W0, W1⟩ := hW; go_simp; (try with_reducible rfl)
        try simp only [List.getElem_toArray, List.getElem_cons_zero, List.getElem_cons_succ, Act.put, List.setIfInBounds_toArray, List.set_cons_zero, List.set_cons_succ]
        refine wpAnyH_take (i := 13) (v := ?_) rfl (by kernel_rfl) (by kernel_rfl) (by kernel_rfl) (fun _ _ _ h => h) (Or.inl ⟨by rfl, ?_⟩) hS ?_
        rotate_left
        · intro wS hW; (try dsimp only at hW); obtain ⟨W0, W1⟩ := hW; go_simp; (try with_reducible rfl)
        try simp only [List.getElem_toArray, List.getElem_cons_zero, List.getElem_cons_succ, Act.put, List.setIfInBounds_toArray, List.set_cons_zero, List.set_cons_succ]
        refine wpAnyH_take (i := 14) (v := ?_) rfl (by kernel_rfl) (by kernel_rfl) (by kernel_rfl) (fun _ _ _ h => h) (Or.inl ⟨by rfl, ?_⟩) hS ?_
        rotate_left
        · intro wS hW; (try dsimp only at hW); obtain ⟨W0, W1⟩ := hW; go_simp; (try with_reducible rfl)
        try simp only [List.getElem_toArray, List.getElem_cons_zero, List.getElem_cons_succ, Act.put, List.setIfInBounds_toArray, List.set_cons_zero, List.set_cons_succ]
        refine wpAnyH_take (i := 15) (v := ?_) rfl (by kernel_rfl) (by kernel_rfl) (by kernel_rfl) (fun _ _ _ h => h) (Or.inl ⟨by rfl, ?_⟩) hS ?_
        rotate_left
        · intro wS hW; (try dsimp only at hW); obtain ⟨W0, W1⟩ := hW; go_simp; (try with_reducible rfl)
        try simp only [List.getElem_toArray, List.getElem_cons_zero, List.getElem_cons_succ, Act.put, List.setIfInBounds_toArray, List.set_cons_zero, List.set_cons_succ]
        refine wpAnyH_take (i := 16) (v := ?_) rfl (by kernel_rfl) (by kernel_rfl) (by kernel_rfl) (fun _ _ _ h => h) (Or.inl ⟨by rfl, ?_⟩) hS ?_
        rotate_left
        · intro wS hW; (try dsimp only at hW); obtain ⟨W0, W1⟩ := hW; go_simp; (try with_reducible rfl)
        try simp only [List.getElem_toArray, List.getElem_cons_zero, List.getElem_cons_succ, Act.put, List.setIfInBounds_toArray, List.set_cons_zero, List.set_cons_succ]
        refine wpAnyH_take (i := 17) (v := ?_) rfl (by kernel_rfl) (by kernel_rfl) (by kernel_rfl) (fun _ _ _ h => h) (Or.inl ⟨by rfl, ?_⟩) hS ?_
        rotate_left
        · intro wS hW; (try dsimp only at hW); obtain ⟨W0, W1⟩ := hW; go_simp; (try with_reducible rfl)
        try simp only [List.getElem_toArray, List.getElem_cons_zero, List.getElem_cons_succ, Act.put, List.setIfInBounds_toArray, List.set_cons_zero, List.set_cons_succ]
        refine wpAnyH_take (i := 18) (v := ?_) rfl (by kernel_rfl) (by kernel_rfl) (by kernel_rfl) (fun _ _ _ h => h) (Or.inl ⟨by rfl, ?_⟩) hS ?_
        rotate_left
        · intro wS hW; (try dsimp only at hW); obtain ⟨W0, W1⟩ := hW; go_simp; (try with_reducible rfl)
        try simp only [List.getElem_toArray, List.getElem_cons_zero, List.getElem_cons_succ, Act.put, List.setIfInBounds_toArray, List.set_cons_zero, List.set_cons_succ]
        have hWd : Below w.heap.size w (((w.alloc (.cells #[.slice (some ad) L.length c0] 40)).alloc (.cells #[.slice none 0 0] 40)).drew) := below_drew (ballo (ballo (Below.refl _ _) _) _)
        obtain ⟨W, HWeq⟩ : ∃ W, Aside0 (((w.alloc (.cells #[.slice (some ad) L.length c0] 40)).alloc (.cells #[.slice none 0 0] 40)).drew = W) := ⟨_, ⟨rfl⟩⟩
        refine wpAnyH_ready (rs := [0]) (by kernel_rfl) (by simp) ?_
        refine AllReadyH.cons rfl (fun K hK => ?_) AllReadyH.nil
        try simp only [List.getElem_toArray, List.getElem_cons_zero, List.getElem_cons_succ, Act.put, List.setIfInBounds_toArray, List.set_cons_zero, List.set_cons_succ]
        go_simp
        refine hK.out _ _ (by first | exact ⟨pw_cell_below (ballo (Below.refl _ _) _) hS.1, pw_cell_below (ballo (Below.refl _ _) _) hS.2⟩ | (dsimp only; exact ⟨pw_cell_below (ballo (Below.refl _ _) _) hS.1, pw_cell_below (ballo (Below.refl _ _) _) hS.2⟩)) (fun hS2 => ?_)
        clear hS hK K
        have hS := hS2
        clear hS2
        try simp only [List.getElem_toArray, List.getElem_cons_zero, List.getElem_cons_succ, Act.put, List.setIfInBounds_toArray, List.set_cons_zero, List.set_cons_succ]
        have hX0 : Below w0.heap.size w0 ((((w.alloc (.cells #[.slice (some ad) L.length c0] 40)).alloc (.cells #[.slice none 0 0] 40)).alloc (.cells #[] 55)).drew) := below_drew (ballo (ballo (ballo HB.out _) _) _)
        have hX1 : Below w.heap.size w ((((w.alloc (.cells #[.slice (some ad) L.length c0] 40)).alloc (.cells #[.slice none 0 0] 40)).alloc (.cells #[] 55)).drew) := below_drew (ballo (ballo (ballo (Below.refl _ _) _) _) _)
        have hc1 := Kd.C_take (m := j) (Kd.C_below HC.out hX1) hj2
        have hlt1 : (L.take j).length = j := by rw [List.length_take]; omega
        rw [hlt1] at hc1
        have hR0 : Kd.R k55 55 ((((w.alloc (.cells #[.slice (some ad) L.length c0] 40)).alloc (.cells #[.slice none 0 0] 40)).alloc (.cells #[] 55)).drew) w0.heap.size (fun _ => True) (.slice (some ⟨w.heap.size + 1 + 1, 0, none⟩) 0 0) [] := by
          have hq := World.ownsRow_lit (base := w0.heap.size) (e := 55) (size := 2) ((w.alloc (.cells #[.slice (some ad) L.length c0] 40)).alloc (.cells #[.slice none 0 0] 40)) #[] 0 (ballo (ballo HB.out _) _).size (by decide) rfl
          exact Kd.R_drew ⟨fun _ _ => trivial, [], by simp at hq; exact hq, Reps.none _ _⟩
        have qb0 : ((((w.alloc (.cells #[.slice (some ad) L.length c0] 40)).alloc (.cells #[.slice none 0 0] 40)).alloc (.cells #[] 55)).drew).heap[w.heap.size]? = some (.cells #[.slice (some ad) L.length c0] 40) := blk_drew (blk_alloc (blk_alloc (blk_new w _) _) _)
        have qr0 : ((((w.alloc (.cells #[.slice (some ad) L.length c0] 40)).alloc (.cells #[.slice none 0 0] 40)).alloc (.cells #[] 55)).drew).heap[w.heap.size + 1]? = some (.cells #[.slice none 0 0] 40) := blk_drew (blk_alloc (by have hq := blk_new (w.alloc (.cells #[.slice (some ad) L.length c0] 40)) (.cells #[.slice none 0 0] 40); rw [World.size_alloc] at hq; exact hq) _)
        refine wpAnyH_ready (rs := [5]) (by kernel_rfl) (by simp) ?_
        refine AllReadyH.cons rfl (fun K hK => ?_) AllReadyH.nil
        refine Kd.R_append_rows_step (Rr := fun p cs => cs = [.int .i64 p.f0, .int .i64 p.f1]) k55 w0.heap.size (by rfl) (.tmp 24) (.tmp 28) 38 55 (.agg #[.int .i64 0, .int .i64 0]) 16 (by rfl) Try.underlying38 info55 rfl (by decide) (by decide) (.slice (some ⟨w.heap.size + 1 + 1, 0, none⟩) 0 0) _ (L.take j) (some ad) j c0 (fun _ => True) (fun _ => False) (by rfl) (by rfl) (hR0) (rows55 (hc1)) (fun p cs hp => by subst hp; exact k55_mkM _ _ _ _) (fun _ hk => hk.elim) (fun _ _ => trivial) hX0 hX0.size (by have := HL.out; have := HK.out; simp only [List.length_nil, List.length_take, List.length_drop]; omega) ?_
        intro v1 w1 hR1 hB1 hg1 hat1
        have hX2 : Below w.heap.size w w1 := pw_below_grown hX1 _ hX1.size hg1 (by intro k hk; simp [Value.ownBlock] at hk; omega)
        have qb1 := blk_grown qb0 hg1 (by intro hk; simp only [Value.ownBlock, Option.some.injEq] at hk; omega)
        have qr1 := blk_grown qr0 hg1 (by intro hk; simp only [Value.ownBlock, Option.some.injEq] at hk; omega)
        have hown1 : ∀ k, v1.ownBlock = some k → w.heap.size + 1 + 1 ≤ k := own_two hat1
        refine hK.out _ _ (by first | exact ⟨blk_cell qb1 0, pw_cell_below hX2 h1⟩ | (dsimp only; exact ⟨blk_cell qb1 0, pw_cell_below hX2 h1⟩)) (fun hS2 => ?_)
        clear hS hK K
        have hS := hS2
        clear hS2
        try simp only [List.getElem_toArray, List.getElem_cons_zero, List.getElem_cons_succ, Act.put, List.setIfInBounds_toArray, List.set_cons_zero, List.set_cons_succ]
        have hc2 := Kd.C_drop (Kd.C_below HC.out hX2) hj3 hc0
        have hlt2 : (L.drop (j + 1)).length = L.length - (j + 1) := List.length_drop
        rw [hlt2] at hc2
        rw [List.nil_append] at hR1
        have hBs := hB1.size
        refine wpAnyH_ready (rs := [11]) (by kernel_rfl) (by simp) ?_
        refine AllReadyH.cons rfl (fun K hK => ?_) AllReadyH.nil
        refine Kd.R_append_rows_step (Rr := fun p cs => cs = [.int .i64 p.f0, .int .i64 p.f1]) k55 w0.heap.size (by rfl) (.tmp 29) (.tmp 34) 38 55 (.agg #[.int .i64 0, .int .i64 0]) 16 (by rfl) Try.underlying38 info55 rfl (by decide) (by decide) v1 _ (L.drop (j + 1)) (if c0 = j + 1 then some ad else some (ad.add ((j + 1) * 2))) (L.length - (j + 1)) (c0 - (j + 1)) (fun _ => True) (fun _ => False) (by rfl) (by rfl) (hR1) (rows55 (hc2)) (fun p cs hp => by subst hp; exact k55_mkM _ _ _ _) (fun _ hk => hk.elim) (fun _ _ => trivial) hB1 hBs (by have := HL.out; have := HK.out; simp only [List.length_nil, List.length_take, List.length_drop]; omega) ?_
        intro v2 w2 hR2 hB2 hg2 hat2
        have hX3 : Below w.heap.size w w2 := pw_below_grown hX2 _ hX2.size hg2 (by intro k hk; have := hown1 k hk; omega)
        have qb2 := blk_grown qb1 hg2 (by intro hk; have := hown1 _ hk.symm; omega)
        have qr2 := blk_grown qr1 hg2 (by intro hk; have := hown1 _ hk.symm; omega)
        obtain ⟨A2, c2, rfl⟩ := Kd.R_slice hR2
        refine hK.out _ _ (by first | exact ⟨blk_cell qb2 0, pw_cell_below hX3 h1⟩ | (dsimp only; exact ⟨blk_cell qb2 0, pw_cell_below hX3 h1⟩)) (fun hS2 => ?_)
        clear hS hK K
        have hS := hS2
        clear hS2
        try simp only [List.getElem_toArray, List.getElem_cons_zero, List.getElem_cons_succ, Act.put, List.setIfInBounds_toArray, List.set_cons_zero, List.set_cons_succ]
        have e0 := blk_cell qr2 0
        have f0 := blk_frozen qr2
        refine wpAnyH_take (i := 12) (v := ?_) rfl (by kernel_rfl) (by kernel_rfl) (by kernel_rfl) (fun _ _ _ h => h) (Or.inl ⟨by rfl, ?_⟩) hS ?_
        rotate_left
        · intro wS hW; (try dsimp only at hW); obtain ⟨W0, W1⟩ := hW; go_simp; (try with_reducible rfl)
        try simp only [List.getElem_toArray, List.getElem_cons_zero, List.getElem_cons_succ, Act.put, List.setIfInBounds_toArray, List.set_cons_zero, List.set_cons_succ]
        refine wpAnyH_ready (rs := [19]) (by kernel_rfl) (by simp) ?_
        refine AllReadyH.cons rfl (fun K hK => ?_) AllReadyH.nil
        try simp only [List.getElem_toArray, List.getElem_cons_zero, List.getElem_cons_succ, Act.put, List.setIfInBounds_toArray, List.set_cons_zero, List.set_cons_succ]
        go_simp
        refine hK.out _ _ (by first | exact ⟨(cell_far (by simp) _).trans (blk_cell qb2 0), (cell_far (by have := World.block_lt_of_cell? w _ h1; simp only at this ⊢; omega) _).trans (pw_cell_below hX3 h1)⟩ | (dsimp only; exact ⟨(cell_far (by simp) _).trans (blk_cell qb2 0), (cell_far (by have := World.block_lt_of_cell? w _ h1; simp only at this ⊢; omega) _).trans (pw_cell_below hX3 h1)⟩)) (fun hS2 => ?_)
        clear hS hK K
        have hS := hS2
        clear hS2
        try simp only [List.getElem_toArray, List.getElem_cons_zero, List.getElem_cons_succ, Act.put, List.setIfInBounds_toArray, List.set_cons_zero, List.set_cons_succ]
        refine wpAnyH_take (i := 20) (v := ?_) rfl (by kernel_rfl) (by kernel_rfl) (by kernel_rfl) (fun _ _ _ h => h) (Or.inl ⟨by rfl, ?_⟩) hS ?_
        rotate_left
        · intro wS hW; (try dsimp only at hW); obtain ⟨W0, W1⟩ := hW; go_simp; (try with_reducible rfl)
        try simp only [List.getElem_toArray, List.getElem_cons_zero, List.getElem_cons_succ, Act.put, List.setIfInBounds_toArray, List.set_cons_zero, List.set_cons_succ]
        refine wpAnyH_take (i := 21) (v := ?_) rfl (by kernel_rfl) (by kernel_rfl) (by kernel_rfl) (fun _ _ _ h => h) (Or.inl ⟨by rfl, ?_⟩) hS ?_
        rotate_left
        · intro wS hW; (try dsimp only at hW); obtain ⟨W0, W1⟩ := hW; go_simp; (try with_reducible rfl)
        try simp only [List.getElem_toArray, List.getElem_cons_zero, List.getElem_cons_succ, Act.put, List.setIfInBounds_toArray, List.set_cons_zero, List.set_cons_succ]
        refine wpAnyH_done (by kernel_rfl) ?_ _
        clear hS
        go_wp2_with fail
        all_goals
          have hl : lastI L c L.length = some j := by rw [HI.out]; simp only [lastI]; rw [HY.out, if_pos HE.out]
          have hv0 : rpopV L c = x := by unfold rpopV; rw [hl]; exact HX.out
          have hv1 : rpopOk L c = true := by unfold rpopOk; rw [hl]; rfl
          have hv2 : rpopL L c = L.take j ++ L.drop (j + 1) := by unfold rpopL; rw [hl]
          have hlen : (L.take j ++ L.drop (j + 1)).length = j + (L.length - (j + 1)) := by rw [List.length_append, hlt1, hlt2]
          rw [hlen] at hR2
          refine bodyPost_ret (v := .tuple #[.agg #[.slice A2 (j + (L.length - (j + 1))) c2], .int .i64 x, .bool true]) (by simp [results, Try.results12, go_sem, e0, f0]) rfl ?_
          refine ⟨.slice A2 (j + (L.length - (j + 1))) c2, by rw [hv0, hv1], ?_, hB2.setCell (show w0.heap.size ≤ w.heap.size + 1 by have := HB.out.size; omega) _, hX3.setCell (Nat.le_succ _) _⟩
          rw [hv2]
          exact Kd.R_set hR2 qr2 (by intro q hq; exact q55 q hq) 0 _
      · have b0 : (y == c) = false := beq_eq_false_iff_ne.2 e
        have HE := Aside0.mk e
        clear e hik hkl
        go_wp2
        go_roundg j
        case measure => omega
        case rel =>
          have hk := HK.out
          have hl := HL.out
          refine ⟨(j : Int) - 1, by rw [w64 (by omega) (by omega)], by omega, by omega, ⟨?_⟩, rfl⟩
          rw [HI.out]
          simp only [lastI]
          rw [HY.out, if_neg HE.out]

end Go.Proofs.Ytmgphebhfecfmaa.X

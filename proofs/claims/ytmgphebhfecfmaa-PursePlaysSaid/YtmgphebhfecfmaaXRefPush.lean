/- The reference's Push, walked by hand. Conditions: none. -/
import Derived.Test.YtmgphebhfecfmaaXSame
namespace Go.Proofs.Ytmgphebhfecfmaa.X
open Go.RowKit Go.Proofs.Ytmgphebhfecfmaa.PPursePlays Go.Proofs.YtmgphebhfecfmaaW.PrintWords Go.Proofs.YtmgphebhfecfmaaW.PrintLast Go.Proofs.YtmgphebhfecfmaaW.PrintMore
set_option linter.unusedVariables false
set_option linter.unusedSimpArgs false

theorem own_none {w : World} (w2 : World) (h : Below w.heap.size w w2) : Kd.R k55 55 (w2.alloc (.cells #[] 55)) w.heap.size (fun _ => True) (.slice (some ⟨w2.heap.size, 0, none⟩) 0 0) [] := by
  have hq := World.ownsRow_lit (base := w.heap.size) (e := 55) (size := 2) w2 #[] 0 h.size (by decide) rfl
  exact ⟨fun _ _ => trivial, [], by simp at hq; exact hq, Reps.none _ _⟩
theorem sz2 {w w2 : World} {o1 o2 : Obj} {n1 : Nat} (hB2 : Below (((w.alloc o1).alloc o2).drewN n1).heap.size (((w.alloc o1).alloc o2).drewN n1) w2) : w.heap.size + 2 ≤ w2.heap.size := by
  have h := hB2.size
  change ((w.alloc o1).alloc o2).heap.size ≤ _ at h
  simp only [World.size_alloc] at h
  exact h
theorem own_ge {w w2 : World} {v : Value} {o : Obj} (hat : v.ownBlock = (Value.slice (some ⟨w2.heap.size, 0, none⟩) 0 0).ownBlock ∨ ∃ b, v.ownBlock = some b ∧ (w2.alloc o).heap.size ≤ b) (hsz : w.heap.size + 2 ≤ w2.heap.size) : ∀ k, v.ownBlock = some k → w.heap.size + 2 ≤ k := by
  intro k hk
  rcases hat with h | ⟨b, h, hb⟩
  · rw [hk] at h; simp only [Value.ownBlock, Option.some.injEq] at h; omega
  · rw [hk] at h; cases h; simp only [World.size_alloc] at hb; omega
theorem blk5a {w : World} {g : Nat} {T : TypeId} {a : Value} (h : w.heap[g]? = some (.cells #[a] T)) : w.cell? ⟨g, 0, none⟩ = some a ∧ (∀ i, w.frozen? ⟨g, i, none⟩ = false) := ⟨blk_cell h 0, blk_frozen h⟩
theorem blk_new1 (w : World) (o o2 : Obj) : ((w.alloc o).alloc o2).heap[w.heap.size + 1]? = some o2 := by
  have h := blk_new (w.alloc o) o2
  rw [World.size_alloc] at h
  exact h
def RPushPost (w0 w : World) (L : List S55) (c a limit : Int) (e : Ending) (w' : World) : Prop := ∃ v' : Value, e = .returned (.tuple #[.agg #[v'], .bool (rpushOk L c limit)]) ∧ Kd.R k55 55 w' w0.heap.size (fun _ => True) v' (rpushL L c a limit) ∧ Below w.heap.size w w'
theorem class_to (c : Int) (b : Bool) (w : World) (h : cls c = b) : Calls Try.prog 20 #[.int .i64 c] w fun e w' => e = .returned (.bool b) ∧ Drawn0 w w' := assartref13_class.calls c b w (by rw [class_f, h])
set_option maxHeartbeats 2000000 in
theorem rpush_calls (v : Value) (L : List S55) (c a limit : Int) (w0 w : World) (hB : Below w0.heap.size w0 w) (h : Kd.R k55 55 w w0.heap.size (fun _ => True) v L) (hl : L.length ≤ 1000) : Calls Try.prog 13 #[.agg #[v], .int .i64 c, .int .i64 a, .int .i64 limit] w (RPushPost w0 w L c a limit) := by
  obtain ⟨A, c0, rfl, hc0, hC⟩ := Kd.R_reads h
  have HC := Aside0.mk hC
  have HB := Aside0.mk hB
  have HR := Aside0.mk h
  have HL := Aside0.mk hl
  have HC0 := Aside0.mk hc0
  clear hC hB h hl hc0
  by_cases hc : cls c = true
  · have HCL := Aside0.mk hc
    clear hc
    by_cases hlm : ((rlist L c).length : Int) < limit
    · have hd : decide (limit ≤ ((rlist L c).length : Int)) = false := decide_eq_false (by omega)
      have HO : Aside0 (rpushOk L c limit = true) := ⟨by unfold rpushOk; rw [HCL.out, decide_eq_true hlm]; rfl⟩
      clear hlm
      go_enter Try.func13, Try.ntmps13
      go_wp2_with (first
        | (go_at_call 20; refine (class_to c true _ HCL.out).mono ?_; rintro e w1 ⟨rfl, ⟨n1, rfl⟩⟩)
        | (go_at_call 21; refine (rlist_calls A c0 L c _ (Kd.C_below HC.out (pw_below_drewN (ballo (ballo (Below.refl _ _) _) _) n1)) HC0.out (by have := HL.out; omega)).mono ?_; rintro e w2 ⟨⟨A2, n2, c2⟩, rfl, hs, hB2⟩; obtain rfl : n2 = (rlist L c).length := hs.len; have qb := blk5a (blk_below (blk_drewN (blk_alloc (blk_new w (.cells #[.slice A L.length c0] 40)) (.cells #[.slice none 0 0] 40)) n1) hB2); have qr := blk5a (blk_below (blk_drewN (blk_new1 w (.cells #[.slice A L.length c0] 40) (.cells #[.slice none 0 0] 40)) n1) hB2); have hX := Aside0.mk (bthen (pw_below_drewN (ballo (ballo (Below.refl w.heap.size w) (.cells #[.slice A L.length c0] 40)) (.cells #[.slice none 0 0] 40)) n1) hB2); have HQR := Aside0.mk (blk_below (blk_drewN (blk_new1 w (.cells #[.slice A L.length c0] 40) (.cells #[.slice none 0 0] 40)) n1) hB2); have hsz := sz2 hB2; have qb2 : ∀ o, (w2.alloc o).cell? ⟨w.heap.size, 0, none⟩ = some (.slice A L.length c0) := fun o => (blk5a (blk_alloc (blk_below (blk_drewN (blk_alloc (blk_new w (.cells #[.slice A L.length c0] 40)) (.cells #[.slice none 0 0] 40)) n1) hB2) o)).1; clear hs hB2)
        | (at_builtin; (refine Kd.R_append_rows (Rr := fun p cs => cs = [.int .i64 p.f0, .int .i64 p.f1]) (w0 := w) k55 w.heap.size rfl (.tmp 22) (.tmp 24) 38 55 (.agg #[.int .i64 0, .int .i64 0]) 16 rfl Try.underlying38 info55 rfl (by decide) (by decide) (.slice (some ⟨w2.heap.size, 0, none⟩) 0 0) [] L A L.length c0 (fun _ => True) (fun _ => False) rfl rfl (own_none w2 hX.out) (rows55 (Kd.C_below HC.out (ballo hX.out _))) (fun p cs hp => by subst hp; exact k55_mkM _ _ _ _) (fun _ hk => hk.elim) (fun _ _ => trivial) (ballo hX.out _) (ballo hX.out _).size (by have := HL.out; simp only [List.length_nil]; omega) ?_); intro v3 w3 hR3 hB3 hg3 hat3; rw [List.nil_append] at hR3; have HR3 := Aside0.mk hR3; have HB3 := Aside0.mk hB3; have HQ3 := Aside0.mk (blk_grown (blk_alloc HQR.out (.cells #[] 55)) hg3 (by intro hk; simp only [Value.ownBlock, Option.some.injEq] at hk; omega)); have HO3 : Aside0 (∀ k, v3.ownBlock = some k → w.heap.size + 2 ≤ k) := ⟨own_ge hat3 hsz⟩; clear hR3 hB3 hg3 hat3)
        | (at_builtin; (refine Kd.R_append (w0 := w) k55 w.heap.size rfl (.tmp 25) (.tmp 29) 38 55 (.agg #[.int .i64 0, .int .i64 0]) 16 rfl Try.underlying38 info55 rfl (by decide) (by decide) v3 L ⟨c, a⟩ [.int .i64 c, .int .i64 a] (fun _ => True) (fun _ => False) rfl rfl (k55_mkM _ _ _ _) (fun _ hk => hk.elim) (fun _ _ => trivial) HR3.out HB3.out HB3.out.size (by have := HL.out; omega) ?_); intro v4 w4 hR4 hB4 hg4 hat4; have HQ4 := blk_grown HQ3.out hg4 (by intro hk; have := HO3.out _ hk.symm; omega); obtain ⟨A4, c4, rfl⟩ := Kd.R_slice hR4; have HR4 := Aside0.mk hR4; have HB4 := Aside0.mk hB4; have qr4 := blk5a HQ4; have HQ4 := Aside0.mk HQ4; clear hR4 hB4 hg4 hat4))
      refine bodyPost_ret (v := .tuple #[.agg #[.slice A4 (L ++ [(⟨c, a⟩ : S55)]).length c4], .bool true]) (by simp [results, Try.results13, go_sem, qr4.1, qr4.2]) rfl ?_
      refine ⟨.slice A4 (L ++ [(⟨c, a⟩ : S55)]).length c4, by rw [HO.out], ?_, HB4.out.setCell (Nat.le_succ _) _⟩
      unfold rpushL
      rw [if_pos HO.out]
      exact Kd.R_lower (Kd.R_set HR4.out HQ4.out (fun q hq => q55 q hq) 0 _) HB.out.size
    · have hd : decide (limit ≤ ((rlist L c).length : Int)) = true := decide_eq_true (by omega)
      have HO : Aside0 (rpushOk L c limit = false) := ⟨by unfold rpushOk; rw [HCL.out, decide_eq_false hlm]; rfl⟩
      clear hlm
      go_enter Try.func13, Try.ntmps13
      go_wp2_with (first
        | (go_at_call 20; refine (class_to c true _ HCL.out).mono ?_; rintro e w1 ⟨rfl, ⟨n1, rfl⟩⟩)
        | (go_at_call 21; refine (rlist_calls A c0 L c _ (Kd.C_below HC.out (pw_below_drewN (ballo (ballo (Below.refl _ _) _) _) n1)) HC0.out (by have := HL.out; omega)).mono ?_; rintro e w2 ⟨⟨A2, n2, c2⟩, rfl, hs, hB2⟩; obtain rfl : n2 = (rlist L c).length := hs.len; have qb := blk5a (blk_below (blk_drewN (blk_alloc (blk_new w (.cells #[.slice A L.length c0] 40)) (.cells #[.slice none 0 0] 40)) n1) hB2); have qr := blk5a (blk_below (blk_drewN (blk_new1 w (.cells #[.slice A L.length c0] 40) (.cells #[.slice none 0 0] 40)) n1) hB2); have hX := Aside0.mk (bthen (pw_below_drewN (ballo (ballo (Below.refl w.heap.size w) (.cells #[.slice A L.length c0] 40)) (.cells #[.slice none 0 0] 40)) n1) hB2); clear hs hB2))
      refine bodyPost_ret (v := .tuple #[.agg #[.slice A L.length c0], .bool false]) (by simp [results, Try.results13, go_sem, qr.1, qr.2]) rfl ?_
      refine ⟨.slice A L.length c0, by rw [HO.out], ?_, hX.out.setCell (Nat.le_succ _) _⟩
      unfold rpushL
      rw [HO.out, if_neg (by simp)]
      exact Kd.R_below HR.out (hX.out.setCell (Nat.le_succ _) _)
  · have hcf : cls c = false := Bool.eq_false_iff.2 hc
    have HCL := Aside0.mk hcf
    have HO : Aside0 (rpushOk L c limit = false) := ⟨by unfold rpushOk; rw [HCL.out]; rfl⟩
    clear hc hcf
    go_enter Try.func13, Try.ntmps13
    go_wp2_with (go_at_call 20; refine (class_to c false _ HCL.out).mono ?_; rintro e w1 ⟨rfl, ⟨n1, rfl⟩⟩)
    refine bodyPost_ret (v := .tuple #[.agg #[.slice A L.length c0], .bool false]) (by simp [results, Try.results13, go_sem]) rfl ?_
    refine ⟨.slice A L.length c0, by rw [HO.out], ?_, (pw_below_drewN (ballo (ballo (Below.refl _ _) _) _) _).setCell (Nat.le_succ _) _⟩
    unfold rpushL
    rw [HO.out, if_neg (by simp)]
    exact Kd.R_below HR.out ((pw_below_drewN (ballo (ballo (Below.refl _ _) _) _) _).setCell (Nat.le_succ _) _)

end Go.Proofs.Ytmgphebhfecfmaa.X

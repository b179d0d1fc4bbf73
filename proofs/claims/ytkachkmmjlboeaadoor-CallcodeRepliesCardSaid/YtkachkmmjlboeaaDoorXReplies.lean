/- CallcodeReplies: the walk. Conditions: none. -/
import Derived.Test.YtkachkmmjlboeaaDoorXRefReply
namespace Go.Proofs.YtkachkmmjlboeaaDoor.X
open Go.RowKit Go.Proofs.YtkachkmmjlboeaaDoor.YAll Go.Proofs.YtkachkmmjlboeaaDoorW.PrintWords Go.Proofs.YtkachkmmjlboeaaDoorW.PrintLast Go.Proofs.YtkachkmmjlboeaaDoorW.PrintMore
set_option linter.unusedVariables false
set_option linter.unusedSimpArgs false
theorem list11 (l : List Int) (h : l.length = 11) : ∃ er a s v t0 t1 t2 t3 t4 t5 t6, l = [er, a, s, v, t0, t1, t2, t3, t4, t5, t6] := by
  match l, h with
  | [er, a, s, v, t0, t1, t2, t3, t4, t5, t6], _ => exact ⟨_, _, _, _, _, _, _, _, _, _, _, rfl⟩
set_option maxRecDepth 100000 in
set_option maxHeartbeats 20000000 in
theorem replies_walk (l : List Int) (hl : l.length = 11) (hI : ∀ x ∈ l, In64 x) (w : World) (hm : Mx w) :
    Calls Tryd.prog 5 #[.agg (l.map (Value.int .i64)).toArray] w fun e w' => e = .returned (.bool true) ∧ Below w.heap.size w w' := by
  obtain ⟨er, a, s, v, t0, t1, t2, t3, t4, t5, t6, rfl⟩ := list11 l hl
  show Calls Tryd.prog 5 #[.agg #[.int .i64 er, .int .i64 a, .int .i64 s, .int .i64 v, .int .i64 t0, .int .i64 t1, .int .i64 t2, .int .i64 t3, .int .i64 t4, .int .i64 t5, .int .i64 t6]] w _
  have HI := Aside0.mk hI
  have HM := Aside0.mk hm
  clear hI hm hl
  obtain ⟨R, hR⟩ : ∃ R, replyT er a s v [t0, t1, t2, t3, t4, t5, t6] = R := ⟨_, rfl⟩
  have HR := Aside0.mk hR
  clear hR
  go_enter Tryd.func5, Tryd.ntmps5
  have BX : CellsAt (w.alloc (Obj.cells #[.int .i64 er, .int .i64 a, .int .i64 s, .int .i64 v, .int .i64 t0, .int .i64 t1, .int .i64 t2, .int .i64 t3, .int .i64 t4, .int .i64 t5, .int .i64 t6] 46)) w.heap.size [er, a, s, v, t0, t1, t2, t3, t4, t5, t6] 46 := blk_new w _
  have BB := ballo (Below.refl w.heap.size w) (Obj.cells #[.int .i64 er, .int .i64 a, .int .i64 s, .int .i64 v, .int .i64 t0, .int .i64 t1, .int .i64 t2, .int .i64 t3, .int .i64 t4, .int .i64 t5, .int .i64 t6] 46)
  go_upto_region 1 with fail
  generalize w.alloc (Obj.cells #[.int .i64 er, .int .i64 a, .int .i64 s, .int .i64 v, .int .i64 t0, .int .i64 t1, .int .i64 t2, .int .i64 t3, .int .i64 t4, .int .i64 t5, .int .i64 t6] 46) = w1 at *
  have KS : Aside0 (∀ w', Below w1.heap.size w1 w' → (fun w' => w'.cell? ⟨w.heap.size, 0, none⟩ = some (.int .i64 er) ∧ w'.cell? ⟨w.heap.size, 1, none⟩ = some (.int .i64 a) ∧ w'.cell? ⟨w.heap.size, 2, none⟩ = some (.int .i64 s) ∧ w'.cell? ⟨w.heap.size, 3, none⟩ = some (.int .i64 v) ∧ w'.cell? ⟨w.heap.size, 4, none⟩ = some (.int .i64 t0) ∧ w'.cell? ⟨w.heap.size, 5, none⟩ = some (.int .i64 t1) ∧ w'.cell? ⟨w.heap.size, 6, none⟩ = some (.int .i64 t2) ∧ w'.cell? ⟨w.heap.size, 7, none⟩ = some (.int .i64 t3) ∧ w'.cell? ⟨w.heap.size, 8, none⟩ = some (.int .i64 t4) ∧ w'.cell? ⟨w.heap.size, 9, none⟩ = some (.int .i64 t5) ∧ w'.cell? ⟨w.heap.size, 10, none⟩ = some (.int .i64 t6)) w') := ⟨fun w' hb => ⟨pw_cell_below hb (blk_cell BX 0), pw_cell_below hb (blk_cell BX 1), pw_cell_below hb (blk_cell BX 2), pw_cell_below hb (blk_cell BX 3), pw_cell_below hb (blk_cell BX 4), pw_cell_below hb (blk_cell BX 5), pw_cell_below hb (blk_cell BX 6), pw_cell_below hb (blk_cell BX 7), pw_cell_below hb (blk_cell BX 8), pw_cell_below hb (blk_cell BX 9), pw_cell_below hb (blk_cell BX 10)⟩⟩
  have HBW := Aside0.mk (below_drew (Below.refl w1.heap.size w1))
  have HBB := Aside0.mk BB
  clear BX BB
  go_region_held3 (fun w' => w'.cell? ⟨w.heap.size, 0, none⟩ = some (.int .i64 er) ∧ w'.cell? ⟨w.heap.size, 1, none⟩ = some (.int .i64 a) ∧ w'.cell? ⟨w.heap.size, 2, none⟩ = some (.int .i64 s) ∧ w'.cell? ⟨w.heap.size, 3, none⟩ = some (.int .i64 v) ∧ w'.cell? ⟨w.heap.size, 4, none⟩ = some (.int .i64 t0) ∧ w'.cell? ⟨w.heap.size, 5, none⟩ = some (.int .i64 t1) ∧ w'.cell? ⟨w.heap.size, 6, none⟩ = some (.int .i64 t2) ∧ w'.cell? ⟨w.heap.size, 7, none⟩ = some (.int .i64 t3) ∧ w'.cell? ⟨w.heap.size, 8, none⟩ = some (.int .i64 t4) ∧ w'.cell? ⟨w.heap.size, 9, none⟩ = some (.int .i64 t5) ∧ w'.cell? ⟨w.heap.size, 10, none⟩ = some (.int .i64 t6))
    (first | (with_reducible exact KS.out _ HBW.out) | (with_reducible exact KS.out _ hX.out) | (with_reducible exact KS.out _ hY.out) | (with_reducible exact KS.out _ hZ.out))
    (first
      | (go_at_call 20; refine (reply_calls er a s v t0 t1 t2 t3 t4 t5 t6 _ HI.out).mono ?_; rintro e w2 ⟨rfl, hB2⟩; rw [HR.out]; first | (have hY := Aside0.mk (bthen hX.out hB2)) | (have hX := Aside0.mk (bthen HBW.out hB2)))
      | (go_at_call 21; refine (refreply_calls er a s v t0 t1 t2 t3 t4 t5 t6 _ HI.out).mono ?_; rintro e w2 ⟨rfl, hB2⟩; rw [HR.out]; first | (have hY := Aside0.mk (bthen hX.out hB2)) | (have hX := Aside0.mk (bthen HBW.out hB2)))
      | (go_at_call 15; refine (lives_calls _ (HM.out.below (bthen HBB.out hY.out))).mono ?_; rintro e w4 ⟨rfl, hB4⟩; have hZ := Aside0.mk (bthen hY.out hB4)))
  all_goals
    go_wp2_with fail
    go_ret
    exact ⟨rfl, bthen HBB.out hZ.out⟩
end Go.Proofs.YtkachkmmjlboeaaDoor.X

/- lives: true. Conditions: the cell of MaxLen. -/
import Derived.Test.YtkachkmmjlboeaaDoorXReply
namespace Go.Proofs.YtkachkmmjlboeaaDoor.X
open Go.RowKit Go.Proofs.YtkachkmmjlboeaaDoor.YAll Go.Proofs.YtkachkmmjlboeaaDoorW.PrintWords Go.Proofs.YtkachkmmjlboeaaDoorW.PrintLast Go.Proofs.YtkachkmmjlboeaaDoorW.PrintMore
set_option linter.unusedVariables false
set_option linter.unusedSimpArgs false

theorem reply_calls (er a s v t0 t1 t2 t3 t4 t5 t6 : Int) (w : World) (hI : ∀ x ∈ [er, a, s, v, t0, t1, t2, t3, t4, t5, t6], In64 x) :
    Calls Tryd.prog 20 #[.agg #[.int .i64 er, .int .i64 a, .int .i64 s, .int .i64 v, .int .i64 t0, .int .i64 t1, .int .i64 t2, .int .i64 t3, .int .i64 t4, .int .i64 t5, .int .i64 t6]] w fun e w' => e = .returned (.string (bs (replyT er a s v [t0, t1, t2, t3, t4, t5, t6]))) ∧ Below w.heap.size w w' := by
  by_cases he : er = 0
  · exact reply_main er a s v t0 t1 t2 t3 t4 t5 t6 w he (fun x hx => hI x (List.mem_cons_of_mem _ hx))
  · exact reply_err er a s v t0 t1 t2 t3 t4 t5 t6 w he (hI er (List.mem_cons_self ..))
theorem lv1 : callT [5, 0, 5, 64, 0] = ([97, 108, 105, 103, 110, 101, 100, 32, 53, 32, 54, 52], 0) := by decide +kernel
theorem lv2 : parseT [115, 116, 111, 114, 101, 32, 55, 32, 45, 51] = ([12, 7, 0, 0, -3], 0) := by decide +kernel
theorem lv3 : replyT 0 128 64 0 [0,0,0,0,0,0,0] = [111, 107, 32, 97, 49, 50, 56, 32, 115, 54, 52] := by decide +kernel
theorem lv_call (w : World) : Calls Tryd.prog 16 #[.agg #[.int .i64 5, .int .i64 0, .int .i64 5, .int .i64 64, .int .i64 0]] w fun e w' => e = .returned (.tuple #[.string ⟨#[97, 108, 105, 103, 110, 101, 100, 32, 53, 32, 54, 52]⟩, .int .i64 0]) ∧ Below w.heap.size w w' := by
  have h := call_calls 5 0 5 64 0 w (by simp [In64])
  unfold CallPost at h
  rw [lv1] at h
  exact h
theorem lv_parse (w : World) (hm : Mx w) : Calls Tryd.prog 18 #[.string ⟨#[115, 116, 111, 114, 101, 32, 55, 32, 45, 51]⟩] w fun e w' => e = .returned (.tuple #[.agg #[.int .i64 12, .int .i64 7, .int .i64 0, .int .i64 0, .int .i64 (-3)], .int .i64 0]) ∧ Below w.heap.size w w' := by
  have h := parse_calls [115, 116, 111, 114, 101, 32, 55, 32, 45, 51] w hm (by decide)
  rw [lv2] at h
  exact h
theorem lv_reply (w : World) : Calls Tryd.prog 20 #[.agg #[.int .i64 0, .int .i64 128, .int .i64 64, .int .i64 0, .int .i64 0, .int .i64 0, .int .i64 0, .int .i64 0, .int .i64 0, .int .i64 0, .int .i64 0]] w fun e w' => e = .returned (.string ⟨#[111, 107, 32, 97, 49, 50, 56, 32, 115, 54, 52]⟩) ∧ Below w.heap.size w w' := by
  have h := reply_calls 0 128 64 0 0 0 0 0 0 0 0 w (by simp [In64])
  rw [lv3] at h
  exact h
set_option maxRecDepth 100000 in
set_option maxHeartbeats 2000000 in
theorem lives_calls (w : World) (hm : Mx w) : Calls Tryd.prog 15 #[] w fun e w' => e = .returned (.bool true) ∧ Below w.heap.size w w' := by
  have HM := Aside0.mk hm
  clear hm
  go_enter Tryd.func15, Tryd.ntmps15
  go_wp2_with (first
    | (go_at_call 16; refine (lv_call _).mono ?_; rintro e w1 ⟨rfl, hB1⟩; have HB1 := Aside0.mk hB1; clear hB1)
    | (go_at_call 18; refine (lv_parse _ (HM.out.below HB1.out)).mono ?_; rintro e w2 ⟨rfl, hB2⟩; have HB2 := Aside0.mk (bthen HB1.out hB2); clear hB2; have BX : CallAt (w2.alloc (Obj.cells #[.int .i64 12, .int .i64 7, .int .i64 0, .int .i64 0, .int .i64 (-3)] 32)) w2.heap.size [12, 7, 0, 0, -3] := blk_new w2 _; obtain ⟨z0, z1, z2, z3, z4⟩ := BX.five)
    | (go_at_call 20; refine (lv_reply _).mono ?_; rintro e w3 ⟨rfl, hB3⟩))
  go_ret
  exact ⟨rfl, bthen (ballo HB2.out _) hB3⟩
end Go.Proofs.YtkachkmmjlboeaaDoor.X

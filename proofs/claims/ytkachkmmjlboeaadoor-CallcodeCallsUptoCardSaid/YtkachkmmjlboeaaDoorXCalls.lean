/- CallcodeCalls: the walk. Conditions: a bound on the text's length. -/
import Derived.Test.YtkachkmmjlboeaaDoorXAgain
import Derived.Test.YtkachkmmjlboeaaDoorXRefCall
namespace Go.Proofs.YtkachkmmjlboeaaDoor.X
open Go.RowKit Go.Proofs.YtkachkmmjlboeaaDoor.YAll Go.Proofs.YtkachkmmjlboeaaDoorW.PrintWords Go.Proofs.YtkachkmmjlboeaaDoorW.PrintLast Go.Proofs.YtkachkmmjlboeaaDoorW.PrintMore
set_option linter.unusedVariables false
set_option linter.unusedSimpArgs false
theorem wd_ne : ∀ k, k < 12 → wd k ≠ [] := by decide +kernel
theorem txtC_jn (W : List UInt8) (c : List Int) (ps : List Nat) : txtC W c ps = jn (W :: wordsC c ps) := by
  show _ = jns 32 _
  rw [jns_cons]
  unfold txtC wordsC
  rw [List.flatMap_map]
theorem form_none (kd : Int) (h : kd < 1 ∨ 12 < kd) : assartref30_form.f kd = some (bs [], ([] : List Nat).map fun (p : Nat) => (p : Int) + 1) := by
  unfold assartref30_form.f
  rw [if_neg (by omega), if_neg (by omega), if_neg (by omega), if_neg (by omega), if_neg (by omega), if_neg (by omega), if_neg (by omega), if_neg (by omega), if_neg (by omega), if_neg (by omega), if_neg (by omega), if_neg (by omega)]
  rfl
theorem refcall_to (t : List UInt8) (f : Int) (kd a s al v : Int) (w : World) (hc : ∀ x ∈ [kd, a, s, al, v] , In64 x) (h : callT [kd, a, s, al, v] = (t, f)) : Calls Tryd.prog 17 #[.agg #[.int .i64 kd, .int .i64 a, .int .i64 s, .int .i64 al, .int .i64 v]] w fun e w' => e = .returned (.tuple #[.string (bs t), .int .i64 f]) ∧ Below w.heap.size w w' := by
  by_cases hk : kd < 1 ∨ 12 < kd
  · exact refcall_gen kd a s al v [] [] w hc (form_none kd hk) (fun p hp => by cases hp) (by decide) (by decide) (t, f) (by
      rw [if_pos (.inl rfl), ← h]
      exact if_pos hk)
  · obtain ⟨k, hk2⟩ : ∃ k : Nat, kd - 1 = (k : Int) := ⟨(kd - 1).toNat, by omega⟩
    have hk12 : k < 12 := by omega
    refine refcall_gen kd a s al v (wd k) (pt k) w hc (by rw [show kd = (k : Int) + 1 by omega]; exact form_f k hk12) (pt_lt k) (pt_len k) (Nat.le_trans (wd_len k) (by decide)) (t, f) ?_
    have hne : txtC (wd k) [kd, a, s, al, v] (pt k) ≠ [] := by
      intro e
      unfold txtC at e
      exact wd_ne k hk12 (List.append_eq_nil_iff.1 e).1
    rw [← h]
    by_cases hp : plainC [kd, a, s, al, v] (pt k) = [kd, a, s, al, v]
    · rw [if_neg (fun h => h.elim hne (fun h => h hp)), callT_eq [kd, a, s, al, v] k hk2 (by show 1 ≤ kd; omega) (by show kd ≤ 12; omega) hp, txtC_jn]
    · rw [if_pos (.inr hp), callT_ne [kd, a, s, al, v] k hk2 (by show 1 ≤ kd; omega) (by show kd ≤ 12; omega) hp]
theorem parseT_len (l : List UInt8) : (parseT l).1.length = 5 := by
  rcases parse_back l with h | ⟨x, h, h5, _⟩
  · rw [h]; rfl
  · rw [h]; exact h5
set_option maxRecDepth 100000 in
set_option maxHeartbeats 20000000 in
theorem calls_walk (l : List Int) (hl : l.length = 5) (hc : ∀ x ∈ l, In64 x) (y : List UInt8) (hy : y.length ≤ 2000000) (w : World) (hm : Mx w) :
    Calls Tryd.prog 4 #[.agg (l.map (Value.int .i64)).toArray, .string (bs y)] w fun e w' => e = .returned (.bool true) ∧ Below w.heap.size w w' := by
  obtain ⟨kd, a, s, al, v, rfl⟩ := list5 l hl
  show Calls Tryd.prog 4 #[.agg #[.int .i64 kd, .int .i64 a, .int .i64 s, .int .i64 al, .int .i64 v], .string (bs y)] w _
  obtain ⟨t, f, ht⟩ : ∃ t f, callT [kd, a, s, al, v] = (t, f) := ⟨_, _, rfl⟩
  obtain ⟨y0, y1, y2, y3, y4, hx⟩ := list5 _ (parseT_len y)
  obtain ⟨g, hg⟩ : ∃ g, (parseT y).2 = g := ⟨_, rfl⟩
  have hp : parseT y = ([y0, y1, y2, y3, y4], g) := Prod.ext hx hg
  have HM := Aside0.mk hm
  have HC := Aside0.mk hc
  have HY := Aside0.mk hy
  have HT := Aside0.mk ht
  have HP := Aside0.mk hp
  clear hc hm hy ht hx hg hp hl
  go_enter Tryd.func4, Tryd.ntmps4
  have BX : CallAt (w.alloc (Obj.cells #[.int .i64 kd, .int .i64 a, .int .i64 s, .int .i64 al, .int .i64 v] 32)) w.heap.size [kd, a, s, al, v] := blk_new w _
  have BB := ballo (Below.refl w.heap.size w) (Obj.cells #[.int .i64 kd, .int .i64 a, .int .i64 s, .int .i64 al, .int .i64 v] 32)
  go_upto_region 1 with fail
  generalize w.alloc (Obj.cells #[.int .i64 kd, .int .i64 a, .int .i64 s, .int .i64 al, .int .i64 v] 32) = w1 at *
  obtain ⟨b0, b1, b2, b3, b4⟩ := BX.five
  have HQ := Aside0.mk BX
  have HW := Aside0.mk BB
  clear BX BB
  go_wp2_with (first
    | (go_at_call 15; have _z := HB5; (with_reducible refine (lives_calls _ (HM.out.below (bthen HW.out HB5.out))).mono ?_); rintro e w6 ⟨rfl, hB6⟩; have HB6 := Aside0.mk (bthen HB5.out hB6); clear hB6)
    | (go_at_call 19; have _z := HB4; (with_reducible refine (refparse_calls y y0 y1 y2 y3 y4 g _ HY.out HP.out).mono ?_); rintro e w5 ⟨rfl, hB5⟩; have HB5 := Aside0.mk (ballo (bthen HB4.out hB5) (Obj.cells #[.int .i64 y0, .int .i64 y1, .int .i64 y2, .int .i64 y3, .int .i64 y4] 32)); obtain ⟨z0, z1, z2, z3, z4⟩ := CallAt.five (blk_new w5 (Obj.cells #[.int .i64 y0, .int .i64 y1, .int .i64 y2, .int .i64 y3, .int .i64 y4] 32) : CallAt (w5.alloc (Obj.cells #[.int .i64 y0, .int .i64 y1, .int .i64 y2, .int .i64 y3, .int .i64 y4] 32)) w5.heap.size [y0, y1, y2, y3, y4]); obtain ⟨v0, v1, v2, v3, v4⟩ := ((HZ4.out.below hB5).alloc (Obj.cells #[.int .i64 y0, .int .i64 y1, .int .i64 y2, .int .i64 y3, .int .i64 y4] 32)).five; clear hB5)
    | (go_at_call 18; have _z := HB3; (with_reducible refine (parse_to y y0 y1 y2 y3 y4 g _ (HM.out.below (bthen HW.out HB3.out)) HY.out HP.out).mono ?_); rintro e w4 ⟨rfl, hB4⟩; have HB4 := Aside0.mk (ballo (bthen HB3.out hB4) (Obj.cells #[.int .i64 y0, .int .i64 y1, .int .i64 y2, .int .i64 y3, .int .i64 y4] 32)); have HZ4 : Aside0 (CallAt (w4.alloc (Obj.cells #[.int .i64 y0, .int .i64 y1, .int .i64 y2, .int .i64 y3, .int .i64 y4] 32)) w4.heap.size [y0, y1, y2, y3, y4]) := ⟨blk_new w4 (Obj.cells #[.int .i64 y0, .int .i64 y1, .int .i64 y2, .int .i64 y3, .int .i64 y4] 32)⟩; clear hB4)
    | (go_at_call 17; have _z := HB2; (with_reducible refine (refcall_to t f kd a s al v _ HC.out HT.out).mono ?_); rintro e w3 ⟨rfl, hB3⟩; have HB3 := Aside0.mk (bthen HB2.out hB3); clear hB3)
    | (go_at_call 16; (with_reducible refine (call_to [kd, a, s, al, v] t f kd a s al v _ rfl HC.out HT.out).mono ?_); rintro e w2 ⟨rfl, hB2⟩; have HB2 := Aside0.mk hB2; obtain ⟨d0, d1, d2, d3, d4⟩ := (HQ.out.below hB2).five; clear hB2))
  go_ret
  exact ⟨rfl, bthen HW.out HB6.out⟩
end Go.Proofs.YtkachkmmjlboeaaDoor.X

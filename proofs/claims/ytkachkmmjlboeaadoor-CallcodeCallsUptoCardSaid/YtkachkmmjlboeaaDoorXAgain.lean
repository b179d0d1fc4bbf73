/- CallcodeAgain: the walk. Conditions: a bound on the text's length. -/
import Derived.Test.YtkachkmmjlboeaaDoorXLives
import Derived.Test.YtkachkmmjlboeaaDoorXPlainT
namespace Go.Proofs.YtkachkmmjlboeaaDoor.X
open Go.RowKit Go.Proofs.YtkachkmmjlboeaaDoor.YAll Go.Proofs.YtkachkmmjlboeaaDoorW.PrintWords Go.Proofs.YtkachkmmjlboeaaDoorW.PrintLast Go.Proofs.YtkachkmmjlboeaaDoorW.PrintMore
set_option linter.unusedVariables false
set_option linter.unusedSimpArgs false
theorem call_to (c : List Int) (t : List UInt8) (f : Int) (kd a s al v : Int) (w : World) (he : c = [kd, a, s, al, v]) (hc : ∀ x ∈ c, In64 x) (h : callT c = (t, f)) : Calls Tryd.prog 16 #[.agg #[.int .i64 kd, .int .i64 a, .int .i64 s, .int .i64 al, .int .i64 v]] w fun e w' => e = .returned (.tuple #[.string (bs t), .int .i64 f]) ∧ Below w.heap.size w w' := by
  subst he
  have h2 := call_calls kd a s al v w hc
  unfold CallPost at h2
  rw [h] at h2
  exact h2
theorem parse_to (l : List UInt8) (a b c d e f : Int) (w : World) (hm : Mx w) (hl : l.length ≤ 2000000) (h : parseT l = ([a, b, c, d, e], f)) : Calls Tryd.prog 18 #[.string (bs l)] w fun z w' => z = .returned (.tuple #[.agg #[.int .i64 a, .int .i64 b, .int .i64 c, .int .i64 d, .int .i64 e], .int .i64 f]) ∧ Below w.heap.size w w' := by
  have h2 := parse_calls l w hm hl
  rw [h] at h2
  exact h2

set_option maxRecDepth 100000 in
set_option maxHeartbeats 20000000 in
theorem again_Ai (kd a s al v : Int) (hc : ∀ x ∈ [kd, a, s, al, v], In64 x) (y : List UInt8) (hy : y.length ≤ 2000000) (w : World) (hm : Mx w) (ht : callT [kd, a, s, al, v] = ([], 2)) (hp : parseT y = ([0, 0, 0, 0, 0], 4)) :
    Calls Tryd.prog 7 #[.agg #[.int .i64 kd, .int .i64 a, .int .i64 s, .int .i64 al, .int .i64 v], .string (bs y)] w fun e w' => e = .returned (.bool true) ∧ Below w.heap.size w w' := by
    have HM := Aside0.mk hm
    have HC := Aside0.mk hc
    have HY := Aside0.mk hy
    clear hc hm hy
    have HT := Aside0.mk ht
    clear ht
    have HP := Aside0.mk hp
    clear hp
    go_enter Tryd.func7, Tryd.ntmps7
    have BX : CallAt (w.alloc (Obj.cells #[.int .i64 kd, .int .i64 a, .int .i64 s, .int .i64 al, .int .i64 v] 32)) w.heap.size [kd, a, s, al, v] := blk_new w _
    have BB := ballo (Below.refl w.heap.size w) (Obj.cells #[.int .i64 kd, .int .i64 a, .int .i64 s, .int .i64 al, .int .i64 v] 32)
    go_upto_region 1 with fail
    generalize w.alloc (Obj.cells #[.int .i64 kd, .int .i64 a, .int .i64 s, .int .i64 al, .int .i64 v] 32) = w1 at *
    obtain ⟨b0, b1, b2, b3, b4⟩ := BX.five
    have HQ := Aside0.mk BX
    have HW := Aside0.mk BB
    clear BX BB
    have hem : (bs []).toList = [] := bs_list []
    go_wp2_with (first
      | (go_at_call 15; have _z := HB4; (with_reducible refine (lives_calls _ (HM.out.below (bthen HW.out HB4.out))).mono ?_); rintro e w5 ⟨rfl, hB5⟩; have HB6 := Aside0.mk (bthen HB4.out hB5); clear hB5)
      | (go_at_call 18; have _z := HB2; (with_reducible refine (parse_to y 0 0 0 0 0 4 _ (HM.out.below (bthen HW.out HB2.out)) HY.out HP.out).mono ?_); rintro e w4 ⟨rfl, hB4⟩; have HB4 := Aside0.mk (ballo (bthen HB2.out hB4) (Obj.cells #[.int .i64 0, .int .i64 0, .int .i64 0, .int .i64 0, .int .i64 0] 32)); obtain ⟨z0, z1, z2, z3, z4⟩ := CallAt.five (blk_new w4 (Obj.cells #[.int .i64 0, .int .i64 0, .int .i64 0, .int .i64 0, .int .i64 0] 32) : CallAt (w4.alloc (Obj.cells #[.int .i64 0, .int .i64 0, .int .i64 0, .int .i64 0, .int .i64 0] 32)) w4.heap.size [0, 0, 0, 0, 0]); clear hB4)
      | (go_at_call 16; (with_reducible refine (call_to [kd, a, s, al, v] [] 2 kd a s al v _ rfl HC.out HT.out).mono ?_); rintro e w2 ⟨rfl, hB2⟩; have HB2 := Aside0.mk hB2; clear hB2))
    go_ret
    exact ⟨rfl, bthen HW.out HB6.out⟩

set_option maxRecDepth 100000 in
set_option maxHeartbeats 20000000 in
theorem again_Aii (kd a s al v y0 y1 y2 y3 y4 : Int) (hc : ∀ x ∈ [kd, a, s, al, v], In64 x) (y : List UInt8) (hy : y.length ≤ 2000000) (w : World) (hm : Mx w) (ht : callT [kd, a, s, al, v] = ([], 2)) (hp : parseT y = ([y0, y1, y2, y3, y4], 0)) (hx : callT [y0, y1, y2, y3, y4] = (y, 0)) (hxi : ∀ x ∈ [y0, y1, y2, y3, y4], In64 x) :
    Calls Tryd.prog 7 #[.agg #[.int .i64 kd, .int .i64 a, .int .i64 s, .int .i64 al, .int .i64 v], .string (bs y)] w fun e w' => e = .returned (.bool true) ∧ Below w.heap.size w w' := by
    have HM := Aside0.mk hm
    have HC := Aside0.mk hc
    have HY := Aside0.mk hy
    clear hc hm hy
    have HT := Aside0.mk ht
    clear ht
    have HP := Aside0.mk hp
    clear hp
    have HX := Aside0.mk hx
    clear hx
    have HXI := Aside0.mk hxi
    clear hxi
    go_enter Tryd.func7, Tryd.ntmps7
    have BX : CallAt (w.alloc (Obj.cells #[.int .i64 kd, .int .i64 a, .int .i64 s, .int .i64 al, .int .i64 v] 32)) w.heap.size [kd, a, s, al, v] := blk_new w _
    have BB := ballo (Below.refl w.heap.size w) (Obj.cells #[.int .i64 kd, .int .i64 a, .int .i64 s, .int .i64 al, .int .i64 v] 32)
    go_upto_region 1 with fail
    generalize w.alloc (Obj.cells #[.int .i64 kd, .int .i64 a, .int .i64 s, .int .i64 al, .int .i64 v] 32) = w1 at *
    obtain ⟨b0, b1, b2, b3, b4⟩ := BX.five
    have HQ := Aside0.mk BX
    have HW := Aside0.mk BB
    clear BX BB
    have hem : (bs []).toList = [] := bs_list []
    go_wp2_with (first
      | (go_at_call 15; have _z := HB5; (with_reducible refine (lives_calls _ (HM.out.below (bthen HW.out HB5.out))).mono ?_); rintro e w6 ⟨rfl, hB6⟩; have HB6 := Aside0.mk (bthen HB5.out hB6); clear hB6)
      | (go_at_call 16; have _z := HB4; (with_reducible refine (call_to [y0, y1, y2, y3, y4] y 0 y0 y1 y2 y3 y4 _ rfl HXI.out HX.out).mono ?_); rintro e w5 ⟨rfl, hB5⟩; have HB5 := Aside0.mk (bthen HB4.out hB5); clear hB5)
      | (go_at_call 18; have _z := HB2; (with_reducible refine (parse_to y y0 y1 y2 y3 y4 0 _ (HM.out.below (bthen HW.out HB2.out)) HY.out HP.out).mono ?_); rintro e w4 ⟨rfl, hB4⟩; have HB4 := Aside0.mk (ballo (bthen HB2.out hB4) (Obj.cells #[.int .i64 y0, .int .i64 y1, .int .i64 y2, .int .i64 y3, .int .i64 y4] 32)); obtain ⟨z0, z1, z2, z3, z4⟩ := CallAt.five (blk_new w4 (Obj.cells #[.int .i64 y0, .int .i64 y1, .int .i64 y2, .int .i64 y3, .int .i64 y4] 32) : CallAt (w4.alloc (Obj.cells #[.int .i64 y0, .int .i64 y1, .int .i64 y2, .int .i64 y3, .int .i64 y4] 32)) w4.heap.size [y0, y1, y2, y3, y4]); clear hB4)
      | (go_at_call 16; (with_reducible refine (call_to [kd, a, s, al, v] [] 2 kd a s al v _ rfl HC.out HT.out).mono ?_); rintro e w2 ⟨rfl, hB2⟩; have HB2 := Aside0.mk hB2; clear hB2))
    go_ret
    exact ⟨rfl, bthen HW.out HB6.out⟩

set_option maxRecDepth 100000 in
set_option maxHeartbeats 20000000 in
theorem again_Bi (kd a s al v : Int) (t : List UInt8) (hc : ∀ x ∈ [kd, a, s, al, v], In64 x) (y : List UInt8) (hy : y.length ≤ 2000000) (w : World) (hm : Mx w) (ht : callT [kd, a, s, al, v] = (t, 0) ∧ t.length ≤ 2000000 ∧ parseT t = ([kd, a, s, al, v], 0)) (hp : parseT y = ([0, 0, 0, 0, 0], 4)) :
    Calls Tryd.prog 7 #[.agg #[.int .i64 kd, .int .i64 a, .int .i64 s, .int .i64 al, .int .i64 v], .string (bs y)] w fun e w' => e = .returned (.bool true) ∧ Below w.heap.size w w' := by
    have HM := Aside0.mk hm
    have HC := Aside0.mk hc
    have HY := Aside0.mk hy
    clear hc hm hy
    have HT := Aside0.mk ht
    clear ht
    have HP := Aside0.mk hp
    clear hp
    go_enter Tryd.func7, Tryd.ntmps7
    have BX : CallAt (w.alloc (Obj.cells #[.int .i64 kd, .int .i64 a, .int .i64 s, .int .i64 al, .int .i64 v] 32)) w.heap.size [kd, a, s, al, v] := blk_new w _
    have BB := ballo (Below.refl w.heap.size w) (Obj.cells #[.int .i64 kd, .int .i64 a, .int .i64 s, .int .i64 al, .int .i64 v] 32)
    go_upto_region 1 with fail
    generalize w.alloc (Obj.cells #[.int .i64 kd, .int .i64 a, .int .i64 s, .int .i64 al, .int .i64 v] 32) = w1 at *
    obtain ⟨b0, b1, b2, b3, b4⟩ := BX.five
    have HQ := Aside0.mk BX
    have HW := Aside0.mk BB
    clear BX BB
    have hem : (bs []).toList = [] := bs_list []
    go_wp2_with (first
      | (go_at_call 15; have _z := HB4; (with_reducible refine (lives_calls _ (HM.out.below (bthen HW.out HB4.out))).mono ?_); rintro e w5 ⟨rfl, hB5⟩; have HB6 := Aside0.mk (bthen HB4.out hB5); clear hB5)
      | (go_at_call 18; have _z := HB3; (with_reducible refine (parse_to y 0 0 0 0 0 4 _ (HM.out.below (bthen HW.out HB3.out)) HY.out HP.out).mono ?_); rintro e w4 ⟨rfl, hB4⟩; have HB4 := Aside0.mk (ballo (bthen HB3.out hB4) (Obj.cells #[.int .i64 0, .int .i64 0, .int .i64 0, .int .i64 0, .int .i64 0] 32)); obtain ⟨z0, z1, z2, z3, z4⟩ := CallAt.five (blk_new w4 (Obj.cells #[.int .i64 0, .int .i64 0, .int .i64 0, .int .i64 0, .int .i64 0] 32) : CallAt (w4.alloc (Obj.cells #[.int .i64 0, .int .i64 0, .int .i64 0, .int .i64 0, .int .i64 0] 32)) w4.heap.size [0, 0, 0, 0, 0]); clear hB4)
      | (go_at_call 18; have _z := HB2; (with_reducible refine (parse_to t kd a s al v 0 _ (HM.out.below (bthen HW.out HB2.out)) HT.out.2.1 HT.out.2.2).mono ?_); rintro e w3 ⟨rfl, hB3⟩; have HB3 := Aside0.mk (ballo (bthen HB2.out hB3) (Obj.cells #[.int .i64 kd, .int .i64 a, .int .i64 s, .int .i64 al, .int .i64 v] 32)); obtain ⟨c0, c1, c2, c3, c4⟩ := CallAt.five (blk_new w3 (Obj.cells #[.int .i64 kd, .int .i64 a, .int .i64 s, .int .i64 al, .int .i64 v] 32) : CallAt (w3.alloc (Obj.cells #[.int .i64 kd, .int .i64 a, .int .i64 s, .int .i64 al, .int .i64 v] 32)) w3.heap.size [kd, a, s, al, v]); obtain ⟨d0, d1, d2, d3, d4⟩ := (HQ.out.below HB3.out).five; clear hB3)
      | (go_at_call 16; (with_reducible refine (call_to [kd, a, s, al, v] t 0 kd a s al v _ rfl HC.out HT.out.1).mono ?_); rintro e w2 ⟨rfl, hB2⟩; have HB2 := Aside0.mk hB2; clear hB2))
    go_ret
    exact ⟨rfl, bthen HW.out HB6.out⟩

set_option maxRecDepth 100000 in
set_option maxHeartbeats 20000000 in
theorem again_Bii (kd a s al v y0 y1 y2 y3 y4 : Int) (t : List UInt8) (hc : ∀ x ∈ [kd, a, s, al, v], In64 x) (y : List UInt8) (hy : y.length ≤ 2000000) (w : World) (hm : Mx w) (ht : callT [kd, a, s, al, v] = (t, 0) ∧ t.length ≤ 2000000 ∧ parseT t = ([kd, a, s, al, v], 0)) (hp : parseT y = ([y0, y1, y2, y3, y4], 0)) (hx : callT [y0, y1, y2, y3, y4] = (y, 0)) (hxi : ∀ x ∈ [y0, y1, y2, y3, y4], In64 x) :
    Calls Tryd.prog 7 #[.agg #[.int .i64 kd, .int .i64 a, .int .i64 s, .int .i64 al, .int .i64 v], .string (bs y)] w fun e w' => e = .returned (.bool true) ∧ Below w.heap.size w w' := by
    have HM := Aside0.mk hm
    have HC := Aside0.mk hc
    have HY := Aside0.mk hy
    clear hc hm hy
    have HT := Aside0.mk ht
    clear ht
    have HP := Aside0.mk hp
    clear hp
    have HX := Aside0.mk hx
    clear hx
    have HXI := Aside0.mk hxi
    clear hxi
    go_enter Tryd.func7, Tryd.ntmps7
    have BX : CallAt (w.alloc (Obj.cells #[.int .i64 kd, .int .i64 a, .int .i64 s, .int .i64 al, .int .i64 v] 32)) w.heap.size [kd, a, s, al, v] := blk_new w _
    have BB := ballo (Below.refl w.heap.size w) (Obj.cells #[.int .i64 kd, .int .i64 a, .int .i64 s, .int .i64 al, .int .i64 v] 32)
    go_upto_region 1 with fail
    generalize w.alloc (Obj.cells #[.int .i64 kd, .int .i64 a, .int .i64 s, .int .i64 al, .int .i64 v] 32) = w1 at *
    obtain ⟨b0, b1, b2, b3, b4⟩ := BX.five
    have HQ := Aside0.mk BX
    have HW := Aside0.mk BB
    clear BX BB
    have hem : (bs []).toList = [] := bs_list []
    go_wp2_with (first
      | (go_at_call 15; have _z := HB5; (with_reducible refine (lives_calls _ (HM.out.below (bthen HW.out HB5.out))).mono ?_); rintro e w6 ⟨rfl, hB6⟩; have HB6 := Aside0.mk (bthen HB5.out hB6); clear hB6)
      | (go_at_call 16; have _z := HB4; (with_reducible refine (call_to [y0, y1, y2, y3, y4] y 0 y0 y1 y2 y3 y4 _ rfl HXI.out HX.out).mono ?_); rintro e w5 ⟨rfl, hB5⟩; have HB5 := Aside0.mk (bthen HB4.out hB5); clear hB5)
      | (go_at_call 18; have _z := HB3; (with_reducible refine (parse_to y y0 y1 y2 y3 y4 0 _ (HM.out.below (bthen HW.out HB3.out)) HY.out HP.out).mono ?_); rintro e w4 ⟨rfl, hB4⟩; have HB4 := Aside0.mk (ballo (bthen HB3.out hB4) (Obj.cells #[.int .i64 y0, .int .i64 y1, .int .i64 y2, .int .i64 y3, .int .i64 y4] 32)); obtain ⟨z0, z1, z2, z3, z4⟩ := CallAt.five (blk_new w4 (Obj.cells #[.int .i64 y0, .int .i64 y1, .int .i64 y2, .int .i64 y3, .int .i64 y4] 32) : CallAt (w4.alloc (Obj.cells #[.int .i64 y0, .int .i64 y1, .int .i64 y2, .int .i64 y3, .int .i64 y4] 32)) w4.heap.size [y0, y1, y2, y3, y4]); clear hB4)
      | (go_at_call 18; have _z := HB2; (with_reducible refine (parse_to t kd a s al v 0 _ (HM.out.below (bthen HW.out HB2.out)) HT.out.2.1 HT.out.2.2).mono ?_); rintro e w3 ⟨rfl, hB3⟩; have HB3 := Aside0.mk (ballo (bthen HB2.out hB3) (Obj.cells #[.int .i64 kd, .int .i64 a, .int .i64 s, .int .i64 al, .int .i64 v] 32)); obtain ⟨c0, c1, c2, c3, c4⟩ := CallAt.five (blk_new w3 (Obj.cells #[.int .i64 kd, .int .i64 a, .int .i64 s, .int .i64 al, .int .i64 v] 32) : CallAt (w3.alloc (Obj.cells #[.int .i64 kd, .int .i64 a, .int .i64 s, .int .i64 al, .int .i64 v] 32)) w3.heap.size [kd, a, s, al, v]); obtain ⟨d0, d1, d2, d3, d4⟩ := (HQ.out.below HB3.out).five; clear hB3)
      | (go_at_call 16; (with_reducible refine (call_to [kd, a, s, al, v] t 0 kd a s al v _ rfl HC.out HT.out.1).mono ?_); rintro e w2 ⟨rfl, hB2⟩; have HB2 := Aside0.mk hB2; clear hB2))
    go_ret
    exact ⟨rfl, bthen HW.out HB6.out⟩

theorem again_walk (l : List Int) (hl : l.length = 5) (hc : ∀ x ∈ l, In64 x) (y : List UInt8) (hy : y.length ≤ 2000000) (w : World) (hm : Mx w) :
    Calls Tryd.prog 7 #[.agg (l.map (Value.int .i64)).toArray, .string (bs y)] w fun e w' => e = .returned (.bool true) ∧ Below w.heap.size w w' := by
  obtain ⟨kd, a, s, al, v, rfl⟩ := list5 l hl
  rcases call_back _ hc with h1 | ⟨h1, h2, h3⟩
  · rcases parse_back y with g1 | ⟨x, g1, g2, g3, g4⟩
    · exact again_Ai kd a s al v hc y hy w hm h1 g1
    · obtain ⟨y0, y1, y2, y3, y4, rfl⟩ := list5 x g2
      exact again_Aii kd a s al v y0 y1 y2 y3 y4 hc y hy w hm h1 g1 g4 g3
  · have ht : callT [kd, a, s, al, v] = ((callT [kd, a, s, al, v]).1, 0) := Prod.ext rfl h1
    rcases parse_back y with g1 | ⟨x, g1, g2, g3, g4⟩
    · exact again_Bi kd a s al v _ hc y hy w hm ⟨ht, by omega, h3⟩ g1
    · obtain ⟨y0, y1, y2, y3, y4, rfl⟩ := list5 x g2
      exact again_Bii kd a s al v y0 y1 y2 y3 y4 _ hc y hy w hm ⟨ht, by omega, h3⟩ g1 g4 g3
end Go.Proofs.YtkachkmmjlboeaaDoor.X

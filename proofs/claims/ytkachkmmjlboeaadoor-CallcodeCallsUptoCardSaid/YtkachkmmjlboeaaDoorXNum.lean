/- callcode.Num: contract by hand. Conditions: none. -/
import Derived.Test.YtkachkmmjlboeaaDoorXDig
import Derived.Test.YtkachkmmjlboeaaDoorYAllx0
import Derived.Deep.RegionHeld3
import Derived.IntWalk
import Derived.WalkLawsBesides
namespace Go.Proofs.YtkachkmmjlboeaaDoor.X
open Go.RowKit Go.Proofs.YtkachkmmjlboeaaDoor.YAll Go.Proofs.YtkachkmmjlboeaaDoorW.PrintWords Go.Proofs.YtkachkmmjlboeaaDoorW.PrintLast Go.Proofs.YtkachkmmjlboeaaDoorW.PrintMore
set_option linter.unusedVariables false
set_option linter.unusedSimpArgs false

def bs (l : List UInt8) : ByteArray := ⟨l.toArray⟩
def c8 (c : UInt8) : Value := .int .u8 (c.toNat : Int)
/-- At block q lies an array of twenty bytes, of which the last ones are acc. -/
structure Arr (w : World) (q : Nat) (acc : List UInt8) : Prop where
  ex : ∃ C, w.heap[q]? = some (.cells C 54) ∧ C.size = 20 ∧ C.toList.drop (20 - acc.length) = acc.map c8
  len : acc.length ≤ 20
theorem drop_set (l : List Value) (i : Nat) (v : Value) (h : i < l.length) : (l.set i v).drop i = v :: l.drop (i + 1) := by
  rw [List.drop_set, if_neg (by omega), Nat.sub_self, List.drop_eq_getElem_cons h]
  rfl
theorem Arr.put {w : World} {q : Nat} {acc : List UInt8} (h : Arr w q acc) (i : Nat) (hi : i + acc.length + 1 = 20) (c : UInt8) : Arr (w.setCell ⟨q, i, none⟩ (c8 c)) q (c :: acc) := by
  obtain ⟨C, hC, hs, hd⟩ := h.ex
  refine ⟨⟨C.setIfInBounds i (c8 c), blk_set hC i _, by simpa using hs, ?_⟩, by rw [List.length_cons]; omega⟩
  rw [List.length_cons, show 20 - (acc.length + 1) = i by omega]
  have e : (C.setIfInBounds i (c8 c)).toList = C.toList.set i (c8 c) := by simp
  rw [e, drop_set _ _ _ (by simp [hs]; omega), List.map_cons, show i + 1 = 20 - acc.length by omega, hd]
theorem Arr.cell {w : World} {q : Nat} {acc : List UInt8} (h : Arr w q acc) (i : Nat) (hi : i < 20) : ∃ u, w.cell? ⟨q, i, none⟩ = some u ∧ w.frozen? ⟨q, i, none⟩ = false := by
  obtain ⟨C, hC, hs, hd⟩ := h.ex
  exact ⟨C[i]'(by omega), by rw [blk_cell hC]; simp [hs, hi], blk_frozen hC i⟩
theorem bthen {w v w' : World} (h : Below w.heap.size w v) (k : Below v.heap.size v w') : Below w.heap.size w w' := h.trans (k.mono h.size)
theorem ballo {w v : World} (h : Below w.heap.size w v) (o : Obj) : Below w.heap.size w (v.alloc o) := h.alloc h.size o
theorem Arr.C {w : World} {q : Nat} {acc : List UInt8} (h : Arr w q acc) : Kd.C (Kd.int .u8) w (some ⟨q, 20 - acc.length, none⟩) acc.length (acc.map fun c => (c.toNat : Int)) := by
  obtain ⟨C, hC, hs, hd⟩ := h.ex
  have hl := h.len
  refine ⟨by simp, by omega, fun hp => ⟨_, rfl, fun j p hj => ?_⟩⟩
  rw [List.getElem?_map] at hj
  obtain ⟨c, hc, rfl⟩ := Option.map_eq_some_iff.1 hj
  have hj2 : j < acc.length := (List.getElem?_eq_some_iff.1 hc).1
  refine ⟨[c8 c], rfl, rfl, fun i u hu => ?_⟩
  have hi : i < 1 := (List.getElem?_eq_some_iff.1 hu).1
  obtain rfl : i = 0 := by omega
  rw [Addr.add_lit, blk_cell hC]
  have e := congrArg (fun l => l[j]?) hd
  simp only [List.getElem?_drop, List.getElem?_map, hc, Option.map_some] at e
  rw [← Array.getElem?_toList, show 20 - acc.length + (j * (Kd.int IntKind.u8).sz + 0) = 20 - acc.length + j by rw [show (Kd.int IntKind.u8).sz = 1 from rfl]; omega, e]
  exact hu
theorem back8 : ∀ l : List UInt8, (l.map fun c => (c.toNat : Int)).map (fun n => UInt8.ofNat n.toNat) = l
  | [] => rfl
  | c :: l => by
    rw [List.map_cons, List.map_cons, back8 l]
    have e : UInt8.ofNat ((c.toNat : Int).toNat) = c := by
      rw [Int.toNat_natCast]
      exact UInt8.ofNat_toNat
    rw [e]
theorem strOfNums_bs (l : List UInt8) : strOfNums (l.map fun c => (c.toNat : Int)) = bs l := by
  unfold strOfNums
  rw [back8 l]
  rfl
theorem bs_size (l : List UInt8) : (bs l).size = l.length := by unfold bs; rfl
theorem bs_append (l m : List UInt8) : bs l ++ bs m = bs (l ++ m) := by
  apply ByteArray.ext
  simp [bs]
theorem elem54 : Tryd.prog.elem 54 = 5 := by kernel_rfl
set_option maxRecDepth 100000 in
theorem cut54 (q k : Nat) (hk : k ≤ 20) (W : World) : (Instr.sliceAt 54 (.pointer (some ⟨q, 0, none⟩)) (some (.int .i64 (k : Int))) none none).run Tryd.prog W = .ok (.slice (some (if 20 = k then ⟨q, 0, none⟩ else ⟨q, k, none⟩)) (20 - k) (20 - k)) W := by
  have hl : Tryd.prog.arrayLen 54 = 20 := by kernel_rfl
  rw [run_sliceAt_array_l W 54 ⟨q, 0, none⟩ (by kernel_rfl) .i64 (k : Int) (by omega) (by rw [hl]; omega), hl]
  have hs : (sizeOf (Tryd.prog.elem 54)).run Tryd.prog W = .ok 1 W := by rw [elem54]; go_simp
  rw [hs]
  simp only [Result.andThen, slicedAt, Int.toNat_natCast, Nat.mul_one]
  congr 2
  split
  · rfl
  · rw [Addr.add_lit, Nat.zero_add]
set_option maxRecDepth 100000 in
set_option maxHeartbeats 2000000 in
theorem num_pos (n : Int) (w : World) (h0 : 0 ≤ n) (h1 : n ≤ 9223372036854775807) : Calls Tryd.prog 10 #[.int .i64 n] w fun e w' => e = .returned (.string (bs (numL n))) ∧ Below w.heap.size w w' := by
  have b0 : decide (n < 0) = false := decide_eq_false (by omega)
  go_enter Tryd.func10, Tryd.ntmps10
  go_wp2
  go_loopg [3, 5] 20 (fun kq v3 v5 w' => ∃ (u a : Int) (acc : List UInt8), v3 = .int .u64 u ∧ v5 = .int .i64 a ∧ 0 ≤ u ∧ Aside0 (u ≤ 18446744073709551615) ∧ a ≤ 20 ∧ a = (kq : Int) ∧ kq + acc.length = 20 ∧ Aside0 (dgF (kq + 5) u.toNat ++ acc = dgs n.natAbs) ∧ Aside0 (Arr w' w.heap.size acc) ∧ Aside0 (Below w.heap.size w w'))
  case atStart => exact ⟨n, 20, [], rfl, rfl, h0, ⟨by omega⟩, by omega, rfl, rfl, ⟨by rw [List.append_nil, show n.toNat = n.natAbs by omega]; rfl⟩, ⟨⟨⟨_, blk_new w _, rfl, rfl⟩, by simp⟩⟩, ⟨ballo (Below.refl _ _) _⟩⟩
  case round =>
    obtain ⟨u, a, acc, rfl, rfl, hu0, HU, ha, hk, hacc, HD, HA, HB⟩ := hrel
    have HN := Aside0.mk (And.intro h0 h1)
    clear h0 h1
    cases gk with
    | zero =>
      exfalso
      have h2 := congrArg List.length HD.out
      rw [List.length_append] at h2
      have h3 : (dgs n.natAbs).length ≤ 19 := dgF_len 25 _ 19 (by have := HN.out; omega) (by omega)
      omega
    | succ k =>
      obtain ⟨c, hc, hf⟩ := HA.out.cell k (by omega)
      have ek : a.toNat = k + 1 := by omega
      have a1 : 1 ≤ a := by omega
      obtain ⟨v, hv⟩ : ∃ v, IntKind.u64.wrap (u.tdiv 10) = v := ⟨_, rfl⟩
      have hv2 : v = u / 10 := by have := HU.out; rw [← hv, Int.tdiv_eq_ediv_of_nonneg hu0]; exact IntWalk.u64_in _ ⟨by omega, by omega⟩
      have HV := Aside0.mk hv2
      have hu10 : 0 ≤ u % 10 ∧ u % 10 < 10 := by omega
      have ec : (Value.int .u8 (48 + u % 10)) = c8 (dig (u % 10).toNat) := by unfold c8; rw [dig_nat _ (by omega)]; congr 1; omega
      have HA2 := Aside0.mk (HA.out.put k (by omega) (dig (u % 10).toNat))
      rw [← ec] at HA2
      have HB2 : Aside0 (Below w.heap.size w (wr.setCell ⟨w.heap.size, k, none⟩ (.int .u8 (48 + u % 10)))) := ⟨HB.out.setCell (Nat.le_refl _) _⟩
      have HD2 := HD.out
      have HK := Aside0.mk (And.intro hacc hk)
      rw [show k + 1 + 5 = (k + 5) + 1 by omega] at HD2
      unfold dgF at HD2
      obtain ⟨W, hW⟩ : ∃ W, wr.setCell ⟨w.heap.size, k, none⟩ (.int .u8 (48 + u % 10)) = W := ⟨_, rfl⟩
      rw [hW] at HA2 HB2
      by_cases hz : u < 10
      · have hz0 : (v == 0) = true := by rw [hv2]; simp; omega
        rw [if_pos (by omega)] at HD2
        have HD3 := Aside0.mk (show dig (u % 10).toNat :: acc = dgs n.natAbs by rw [show (u % 10).toNat = u.toNat by omega]; exact HD2)
        have hcut := cut54 w.heap.size k (by omega)
        rw [if_neg (by omega)] at hcut
        have hcv : (convert 55 9 (.slice (some ⟨w.heap.size, k, none⟩) (20 - k) (20 - k))).run Tryd.prog W = .ok (.string (bs (dgs n.natAbs))) W := by
          have h2 := HA2.out.C
          rw [List.length_cons, show 20 - (acc.length + 1) = k by omega, show acc.length + 1 = 20 - k by omega] at h2
          have h3 := Kd.C_string (P := Tryd.prog) (src := 55) (dst := 9) (e := 5) (c := 20 - k) Tryd.underlying55 Tryd.underlying5 Tryd.underlying9 h2
          rw [strOfNums_bs, HD3.out] at h3
          exact h3
        clear hz hv2 HD2 HD hacc hu10 ec HA
        go_wp2_with fail
        go_ret
        exact ⟨by rw [show numL n = dgs n.natAbs from by unfold numL; rw [if_neg (by have := HN.out; omega)]]; rfl, HB2.out⟩
      · have hz0 : (v == 0) = false := by rw [hv2]; simp; omega
        rw [if_neg (by omega)] at HD2
        have HD3 := Aside0.mk (show dgF (k + 5) (u.toNat / 10) ++ (dig (u % 10).toNat :: acc) = dgs n.natAbs by rw [show (u % 10).toNat = u.toNat % 10 by omega]; rw [List.append_assoc] at HD2; exact HD2)
        have HU2 := HU.out
        have HZ := Aside0.mk hu0
        clear hz hv2 HD2 HD hacc hu10 ec HA HU2
        go_wp2_with fail
        go_roundg k
        case measure => omega
        case rel =>
          have h1 := HV.out
          have h2 := HK.out
          have h3 := HZ.out
          refine ⟨v, (k : Int), dig (u % 10).toNat :: acc, rfl, rfl, by omega, ⟨by have := HU.out; omega⟩, by omega, rfl, by rw [List.length_cons]; omega, ⟨?_⟩, HA2, HB2⟩
          rw [show v.toNat = u.toNat / 10 by omega]
          exact HD3.out
set_option maxRecDepth 100000 in
set_option maxHeartbeats 2000000 in
theorem num_neg (n : Int) (w : World) (h0 : n < 0) (h1 : -9223372036854775808 ≤ n) : Calls Tryd.prog 10 #[.int .i64 n] w fun e w' => e = .returned (.string (bs (numL n))) ∧ Below w.heap.size w w' := by
  have b0 : decide (n < 0) = true := decide_eq_true h0
  have hneg : IntKind.u64.wrap (-(IntKind.u64.wrap n)) = -n := by simp [IntKind.wrap, IntKind.bits, IntKind.signed]; omega
  go_enter Tryd.func10, Tryd.ntmps10
  go_wp2
  go_loopg [3, 5] 20 (fun kq v3 v5 w' => ∃ (u a : Int) (acc : List UInt8), v3 = .int .u64 u ∧ v5 = .int .i64 a ∧ 0 ≤ u ∧ Aside0 (u ≤ 18446744073709551615) ∧ a ≤ 20 ∧ a = (kq : Int) ∧ kq + acc.length = 20 ∧ Aside0 (dgF (kq + 5) u.toNat ++ acc = dgs n.natAbs) ∧ Aside0 (Arr w' w.heap.size acc) ∧ Aside0 (Below w.heap.size w w'))
  case atStart => exact ⟨-n, 20, [], rfl, rfl, by omega, ⟨by omega⟩, by omega, rfl, rfl, ⟨by rw [List.append_nil, show (-n).toNat = n.natAbs by omega]; rfl⟩, ⟨⟨⟨_, blk_new w _, rfl, rfl⟩, by simp⟩⟩, ⟨ballo (Below.refl _ _) _⟩⟩
  case round =>
    obtain ⟨u, a, acc, rfl, rfl, hu0, HU, ha, hk, hacc, HD, HA, HB⟩ := hrel
    have HN := Aside0.mk (And.intro h0 h1)
    clear h0 h1
    cases gk with
    | zero =>
      exfalso
      have h2 := congrArg List.length HD.out
      rw [List.length_append] at h2
      have h3 : (dgs n.natAbs).length ≤ 19 := dgF_len 25 _ 19 (by have := HN.out; omega) (by omega)
      omega
    | succ k =>
      obtain ⟨c, hc, hf⟩ := HA.out.cell k (by omega)
      have ek : a.toNat = k + 1 := by omega
      have a1 : 1 ≤ a := by omega
      obtain ⟨v, hv⟩ : ∃ v, IntKind.u64.wrap (u.tdiv 10) = v := ⟨_, rfl⟩
      have hv2 : v = u / 10 := by have := HU.out; rw [← hv, Int.tdiv_eq_ediv_of_nonneg hu0]; exact IntWalk.u64_in _ ⟨by omega, by omega⟩
      have HV := Aside0.mk hv2
      have hu10 : 0 ≤ u % 10 ∧ u % 10 < 10 := by omega
      have ec : (Value.int .u8 (48 + u % 10)) = c8 (dig (u % 10).toNat) := by unfold c8; rw [dig_nat _ (by omega)]; congr 1; omega
      have HA2 := Aside0.mk (HA.out.put k (by omega) (dig (u % 10).toNat))
      rw [← ec] at HA2
      have HB2 : Aside0 (Below w.heap.size w (wr.setCell ⟨w.heap.size, k, none⟩ (.int .u8 (48 + u % 10)))) := ⟨HB.out.setCell (Nat.le_refl _) _⟩
      have HD2 := HD.out
      have HK := Aside0.mk (And.intro hacc hk)
      rw [show k + 1 + 5 = (k + 5) + 1 by omega] at HD2
      unfold dgF at HD2
      obtain ⟨W, hW⟩ : ∃ W, wr.setCell ⟨w.heap.size, k, none⟩ (.int .u8 (48 + u % 10)) = W := ⟨_, rfl⟩
      rw [hW] at HA2 HB2
      by_cases hz : u < 10
      · have hz0 : (v == 0) = true := by rw [hv2]; simp; omega
        rw [if_pos (by omega)] at HD2
        have HD3 := Aside0.mk (show dig (u % 10).toNat :: acc = dgs n.natAbs by rw [show (u % 10).toNat = u.toNat by omega]; exact HD2)
        have hcut := cut54 w.heap.size k (by omega)
        rw [if_neg (by omega)] at hcut
        have hcv : (convert 55 9 (.slice (some ⟨w.heap.size, k, none⟩) (20 - k) (20 - k))).run Tryd.prog W = .ok (.string (bs (dgs n.natAbs))) W := by
          have h2 := HA2.out.C
          rw [List.length_cons, show 20 - (acc.length + 1) = k by omega, show acc.length + 1 = 20 - k by omega] at h2
          have h3 := Kd.C_string (P := Tryd.prog) (src := 55) (dst := 9) (e := 5) (c := 20 - k) Tryd.underlying55 Tryd.underlying5 Tryd.underlying9 h2
          rw [strOfNums_bs, HD3.out] at h3
          exact h3
        have hsz : ¬ (9223372036854775807 < 1 + (bs (dgs n.natAbs)).size) := by
          have := dgF_len 25 n.natAbs 19 (by have := HN.out; omega) (by omega)
          rw [bs_size, show (dgs n.natAbs).length = (dgF 25 n.natAbs).length from rfl]; omega
        clear hz hv2 HD2 HD hacc hu10 ec HA
        go_wp2_with fail
        go_ret
        exact ⟨by rw [show numL n = 45 :: dgs n.natAbs from by unfold numL; rw [if_pos HN.out.1]]; exact congrArg (fun x => Ending.returned (.string x)) (bs_append [45] (dgs n.natAbs)), HB2.out⟩
      · have hz0 : (v == 0) = false := by rw [hv2]; simp; omega
        rw [if_neg (by omega)] at HD2
        have HD3 := Aside0.mk (show dgF (k + 5) (u.toNat / 10) ++ (dig (u % 10).toNat :: acc) = dgs n.natAbs by rw [show (u % 10).toNat = u.toNat % 10 by omega]; rw [List.append_assoc] at HD2; exact HD2)
        have HU2 := HU.out
        have HZ := Aside0.mk hu0
        clear hz hv2 HD2 HD hacc hu10 ec HA HU2
        go_wp2_with fail
        go_roundg k
        case measure => omega
        case rel =>
          have h1 := HV.out
          have h2 := HK.out
          have h3 := HZ.out
          refine ⟨v, (k : Int), dig (u % 10).toNat :: acc, rfl, rfl, by omega, ⟨by have := HU.out; omega⟩, by omega, rfl, by rw [List.length_cons]; omega, ⟨?_⟩, HA2, HB2⟩
          rw [show v.toNat = u.toNat / 10 by omega]
          exact HD3.out
end Go.Proofs.YtkachkmmjlboeaaDoor.X

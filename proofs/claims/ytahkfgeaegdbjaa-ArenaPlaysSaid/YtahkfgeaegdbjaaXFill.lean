/- An arena that is filled with some words: contract by hand. Conditions: none. -/
import Derived.Test.YtahkfgeaegdbjaaXLives
import Derived.Test.YtahkfgeaegdbjaaWMore
namespace Go.Proofs.Ytahkfgeaegdbjaa.X
open Go.RowKit Go.Proofs.YtahkfgeaegdbjaaW.PrintWords Go.Proofs.YtahkfgeaegdbjaaW.PrintLast Go.Proofs.YtahkfgeaegdbjaaW.PrintMore
set_option linter.unusedVariables false
set_option linter.unusedSimpArgs false

theorem w64 {a : Int} (h0 : -9223372036854775808 ≤ a) (h1 : a ≤ 9223372036854775807) : wrap64 a = a := by unfold wrap64; omega
def fillL (l : List Int) (i : Nat) : List Int := l.take i ++ List.replicate (l.length - i) 0
theorem fillL_len (l : List Int) (i : Nat) (h : i ≤ l.length) : (fillL l i).length = l.length := by unfold fillL; simp; omega
theorem fillL_zero (l : List Int) : fillL l 0 = List.replicate l.length 0 := by unfold fillL; simp
theorem fillL_all (l : List Int) : fillL l l.length = l := by unfold fillL; simp
theorem fillL_set (l : List Int) (i : Nat) (h : i < l.length) : (fillL l i).set i (rd l (i : Int)) = fillL l (i + 1) := by
  have e : rd l (i : Int) = l[i] := by simp [rd, List.getD, h]
  rw [e]
  unfold fillL
  have t : l.take (i + 1) = l.take i ++ [l[i]] := by rw [List.take_add_one, List.getElem?_eq_getElem h]; rfl
  rw [t, List.append_assoc, List.set_append_right i l[i] (by rw [List.length_take]; omega), show l.length - i = (l.length - (i + 1)) + 1 by omega, List.replicate_succ, List.length_take, show i - min i l.length = 0 by omega, List.set_cons_zero]
  rfl

set_option maxHeartbeats 1000000 in
theorem filled_calls (A0 : Option Addr) (c0 : Nat) (l0 : List Int) (w : World) (hC : Kd.C (Kd.int .i64) w A0 l0.length l0) (h1 : 1 ≤ l0.length) (h2 : l0.length ≤ 300) :
    Calls Try.prog 12 #[.slice A0 l0.length c0] w fun e w' => ∃ q g, e = .returned (.pointer (some ⟨q, 0, none⟩)) ∧ Ar w' q g l0 l0.length ∧ w.heap.size ≤ q ∧ w.heap.size ≤ g ∧ Below w.heap.size w w' := by
  have HC := Aside0.mk hC
  have HL := Aside0.mk (And.intro h1 h2)
  clear hC h1 h2
  go_enter Try.func12, Try.ntmps12
  go_wp2_with (go_at_call 9; refine (new_calls (l0.length : Int) _ (by have := HL.out; omega) (by have := HL.out; omega)).mono ?_; rintro e w1 ⟨q, g, rfl, hA, hq, hg, hB⟩)
  go_loopg [5] l0.length (fun kq v5 w' => ∃ (i : Int), v5 = .int .i64 i ∧ 0 ≤ i ∧ i + (kq : Int) = l0.length ∧ Aside0 (Ar w' q g (fillL l0 i.toNat) i) ∧ Below w.heap.size w w')
  case atStart =>
    refine ⟨0, rfl, by omega, by omega, ⟨?_⟩, hB⟩
    rw [show (0 : Int).toNat = 0 from rfl, fillL_zero]
    simpa using hA
  case round =>
    clear hA hB
    obtain ⟨i, rfl, hi0, hik, HA, hbel⟩ := hrel
    by_cases hlt : i < (l0.length : Int)
    · have hd : decide (i < (l0.length : Int)) = true := decide_eq_true hlt
      obtain ⟨gk, rfl⟩ : ∃ m, gk = m + 1 := ⟨gk - 1, by omega⟩
      obtain ⟨ad, ead, hx⟩ := Kd.at_int (Kd.C_below HC.out hbel) i hi0 hlt
      cases ead
      have HI := Aside0.mk (And.intro hi0 (And.intro hik hlt))
      have p0 : (0 ≤ i) = True := eq_true hi0
      have q0 : (i < (l0.length : Int)) = True := eq_true hlt
      have hin : inR (fillL l0 i.toNat) i := ⟨hi0, by rw [fillL_len l0 _ (by omega)]; exact hlt⟩
      have HS : Aside0 ((if inR (fillL l0 i.toNat) i then (fillL l0 i.toNat).set i.toNat (rd l0 i) else fillL l0 i.toNat) = fillL l0 (i.toNat + 1)) := ⟨by
        rw [if_pos hin]
        have := fillL_set l0 i.toNat (by omega)
        rwa [show ((i.toNat : Nat) : Int) = i by omega] at this⟩
      have HN : Aside0 (cntN (fillL l0 i.toNat) i i = i + 1) := ⟨by have := HL.out; rw [cntN, if_pos hin, w64 (by omega) (by omega)]⟩
      have HE : Aside0 ((if inR (fillL l0 i.toNat) i then (0 : Int) else 3) = 0) := ⟨if_pos hin⟩
      clear hi0 hik hlt hin
      go_wp2_with (go_at_call 17; refine (store_to HA.out i (rd l0 i) _ _ 0 HS.out HN.out HE.out).mono ?_; rintro e w2 ⟨rfl, hA2, hK⟩)
      go_roundg gk
      case measure => omega
      case rel =>
        obtain ⟨hi0, hik, hlt⟩ := HI.out
        have := HL.out
        refine ⟨i + 1, by rw [w64 (by omega) (by omega)], by omega, by omega, ⟨by rw [show (i + 1).toNat = i.toNat + 1 by omega]; exact hA2⟩, Keep.below hbel hK hbel.size hq hg⟩
    · have hd : decide (i < (l0.length : Int)) = false := decide_eq_false hlt
      have hA := HA.out
      rw [show i.toNat = l0.length by omega, fillL_all, show i = (l0.length : Int) by omega] at hA
      have HB := Aside0.mk hA
      clear hlt hik hi0 hA HA
      go_wp2
      go_ret
      exact ⟨q, g, rfl, HB.out, hq, hg, hbel⟩

end Go.Proofs.Ytahkfgeaegdbjaa.X

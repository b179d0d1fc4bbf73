/- How many steps both rows of a list have: lanes.rows, walked by hand. Conditions: none. -/
import Derived.Test.YtpmkkohnpfpifaaXNth
import Derived.Test.YtpmkkohnpfpifaaYLanesWeavesx1
import Derived.LoopTactic
namespace Go.Proofs.Ytpmkkohnpfpifaa.X
open Go.RowKit Go.Proofs.YtpmkkohnpfpifaaW.PrintWords Go.Proofs.YtpmkkohnpfpifaaW.PrintLast Go.Proofs.YtpmkkohnpfpifaaW.PrintMore
set_option linter.unusedVariables false
set_option linter.unusedSimpArgs false

def zs (l : List Int) : Nat := l.count 0
def os (l : List Int) : Nat := l.count 1
def okB (l : List Int) : Bool := l.all fun x => x == 0 || x == 1
def rowsN (l : List Int) : Int × Int × Bool := if okB l = true then ((zs l : Int), (os l : Int), decide (mayN (zs l) (os l))) else (0, 0, false)
def lanes_rows.f (l0 : List Int) : Option (Int × Int × Bool) := if l0.length ≤ 4611686018427387904 then some (rowsN l0) else none

theorem take_snoc (l : List Int) (i : Nat) (h : i < l.length) : l.take (i + 1) = l.take i ++ [rd l (i : Int)] := by
  rw [List.take_add_one, List.getElem?_eq_getElem h]
  simp [rd, List.getD, h]
theorem zs_snoc (l : List Int) (x : Int) : zs (l ++ [x]) = zs l + (if x = 0 then 1 else 0) := by
  unfold zs; rw [List.count_append, List.count_singleton]; simp
theorem os_snoc (l : List Int) (x : Int) : os (l ++ [x]) = os l + (if x = 1 then 1 else 0) := by
  unfold os; rw [List.count_append, List.count_singleton]; simp
theorem okB_snoc (l : List Int) (x : Int) : okB (l ++ [x]) = (okB l && (x == 0 || x == 1)) := by
  unfold okB; rw [List.all_append]; simp
theorem okB_bad (l : List Int) (i : Nat) (h : i < l.length) (h0 : rd l (i : Int) ≠ 0) (h1 : rd l (i : Int) ≠ 1) : okB l = false := by
  unfold okB
  rw [List.all_eq_false]
  refine ⟨l[i], List.getElem_mem h, ?_⟩
  have e : rd l (i : Int) = l[i] := by simp [rd, List.getD, h]
  rw [e] at h0 h1
  simp [h0, h1]
theorem zs_le (l : List Int) : zs l ≤ l.length := List.count_le_length
theorem os_le (l : List Int) : os l ≤ l.length := List.count_le_length

attribute [local go_sem] max2_int min2_int max_two min_two in
theorem may_same (a0 : Int) (a1 : Int) (w : World) :
    Calls Try.prog 17 #[.int .i64 a0, .int .i64 a1] w fun e w' => e = .returned (.bool (decide (mayN a0 a1))) ∧ w' = w := by
  have H := may_lanes a0 a1
  unfold Ylanes_Nth.lanes_may.f mn mx at H
  obtain ⟨ji3, hji3_⟩ : ∃ j_ : Int, (if a1 < a0 then a1 else a0) = j_ := ⟨_, rfl⟩
  obtain ⟨ji5, hji5_⟩ : ∃ j_ : Int, (if a0 < a1 then a1 else a0) = j_ := ⟨_, rfl⟩
  rw [hji3_, hji5_] at H
  by_cases c4 : ji3 ≥ 0
  · rw [if_pos c4] at H
    have c4b0 : decide (0 ≤ (ji3)) = true := decide_eq_true c4
    clear c4
    rw [← Option.some.inj H]
    clear H
    go_enter Try.func17, Try.ntmps17
    go_wp2
    go_ret
    exact ⟨rfl, rfl⟩
  · rw [if_neg c4] at H
    have c4b0 : decide (0 ≤ (ji3)) = false := decide_eq_false c4
    clear c4
    rw [← Option.some.inj H]
    clear H
    go_enter Try.func17, Try.ntmps17
    go_wp2
    go_ret
    exact ⟨rfl, rfl⟩

set_option maxHeartbeats 2000000 in
theorem lanes_rows.calls (A0 : Option Addr) (c0 : Nat) (l0 : List Int) (r1 : Int) (r2 : Int) (r3 : Bool) (w : World) (hr0 : Kd.C (Kd.int .i64) w A0 l0.length l0) (hc0 : l0.length ≤ c0) (h : lanes_rows.f l0 = some (r1, r2, r3)) :
    Calls Try.prog 21 #[.slice A0 l0.length c0] w fun e w' => e = .returned (.tuple #[.int .i64 r1, .int .i64 r2, .bool r3]) ∧ Below w.heap.size w w' := by
  have HR0 := Aside0.mk hr0
  have HC0 := Aside0.mk hc0
  have HF := Aside0.mk h
  have HX := Aside0.mk (show l0.length ≤ 4611686018427387904 by
    by_cases hh : l0.length ≤ 4611686018427387904
    · exact hh
    · rw [lanes_rows.f, if_neg hh] at h; cases h)
  clear hr0 hc0 h
  go_enter Try.func21, Try.ntmps21
  go_wp2
  go_loopg [7, 10] l0.length (fun kq v7 v10 w' => ∃ (i : Nat), v10 = .int .i64 (i : Int) ∧ i + kq = l0.length ∧ Aside0 (okB (l0.take i) = true) ∧ Aside0 (w'.cell? ⟨w.heap.size, 0, none⟩ = some (.int .i64 (zs (l0.take i)))) ∧ Aside0 (w'.cell? ⟨w.heap.size, 1, none⟩ = some (.int .i64 (os (l0.take i)))) ∧ Aside0 (w'.frozen? ⟨w.heap.size, 0, none⟩ = false ∧ w'.frozen? ⟨w.heap.size, 1, none⟩ = false) ∧ Below w.heap.size w w')
  case atStart => exact ⟨0, rfl, by omega, ⟨rfl⟩, ⟨by simp [zs]⟩, ⟨by simp [os]⟩, ⟨by simp, by simp⟩, by repeat (first | exact Below.refl _ _ | apply Below.drew | (refine Below.alloc ?_ (Nat.le_refl _) _))⟩
  case round =>
    obtain ⟨i, rfl, hi, HB, C0, C1, HZ, hbel⟩ := hrel
    by_cases hlt : (i : Int) < (l0.length : Int)
    · have hd : decide ((i : Int) < (l0.length : Int)) = true := decide_eq_true hlt
      obtain ⟨gk, rfl⟩ : ∃ m, gk = m + 1 := ⟨gk - 1, by omega⟩
      have p0 : 0 ≤ (i : Int) := by omega
      obtain ⟨ad, ead, hx⟩ := Kd.at_int (Kd.C_below HR0.out hbel) (i : Int) p0 hlt
      cases ead
      rw [Int.toNat_natCast] at hx
      have HS := Aside0.mk (take_snoc l0 i (by omega))
      have HL := Aside0.mk hlt
      replace p0 := eq_true p0
      replace hlt := eq_true hlt
      by_cases e0 : rd l0 (i : Int) = 0
      · have b0 : ((rd l0 (i : Int)) != 0) = false := bne_eq_false_iff_eq.mpr e0
        have c0' := C0.out
        have c1' := C1.out
        obtain ⟨z0, z1⟩ := HZ.out
        go_wp2
        go_roundg gk
        case measure => omega
        case rel =>
          have hl60 : i < 9223372036854775807 := by have h2 := HX.out; omega
          rw [w64 (a := (i : Int) + 1) (by omega) (by omega)]
          refine ⟨i + 1, by simp, by omega, ⟨?_⟩, ⟨?_⟩, ⟨?_⟩, ⟨by simp [z0], by simp [z1]⟩, hbel.setCell (Nat.le_refl _) _⟩
          · rw [HS.out, okB_snoc, HB.out, e0]; rfl
          · rw [HS.out, zs_snoc, e0]; have hz := zs_le (l0.take i); have hz2 : (l0.take i).length ≤ i := List.length_take_le _ _; rw [World.cell?_setCell_same _ _ _ c0']; rw [w64 (by omega) (by omega)]; simp
          · rw [HS.out, os_snoc, e0]; rw [World.cell?_setCell_other _ _ _ _ (by simp)]; rw [c1']; simp
      · have b0 : ((rd l0 (i : Int)) != 0) = true := bne_iff_ne.mpr e0
        by_cases e1 : rd l0 (i : Int) = 1
        · have b1 : ((rd l0 (i : Int)) != 1) = false := bne_eq_false_iff_eq.mpr e1
          have c0' := C0.out
          have c1' := C1.out
          obtain ⟨z0, z1⟩ := HZ.out
          go_wp2
          go_roundg gk
          case measure => omega
          case rel =>
            have hl60 : i < 9223372036854775807 := by have h2 := HX.out; omega
            rw [w64 (a := (i : Int) + 1) (by omega) (by omega)]
            refine ⟨i + 1, by simp, by omega, ⟨?_⟩, ⟨?_⟩, ⟨?_⟩, ⟨by simp [z0], by simp [z1]⟩, hbel.setCell (Nat.le_refl _) _⟩
            · rw [HS.out, okB_snoc, HB.out, e1]; rfl
            · rw [HS.out, zs_snoc, e1]; rw [World.cell?_setCell_other _ _ _ _ (by simp)]; rw [c0']; simp
            · rw [HS.out, os_snoc, e1]; have hz := os_le (l0.take i); have hz2 : (l0.take i).length ≤ i := List.length_take_le _ _; rw [World.cell?_setCell_same _ _ _ c1']; rw [w64 (by omega) (by omega)]; simp
        · have b1 : ((rd l0 (i : Int)) != 1) = true := bne_iff_ne.mpr e1
          go_wp2
          have HR := HF.out
          rw [lanes_rows.f, if_pos HX.out, rowsN, okB_bad l0 i (by have := HL.out; omega) e0 e1, if_neg (by simp)] at HR
          simp only [Option.some.injEq, Prod.mk.injEq] at HR
          obtain ⟨rfl, rfl, rfl⟩ := HR
          go_ret3
          exact ⟨rfl, hbel⟩
    · have hd : decide ((i : Int) < (l0.length : Int)) = false := decide_eq_false hlt
      have c0' := C0.out
      have c1' := C1.out
      obtain ⟨z0, z1⟩ := HZ.out
      go_wp2
      go_quiet ((go_at_call 17; exact Calls.quiet_of_same (may_same _ _ _)))
      have ei : l0.take i = l0 := List.take_of_length_le (by omega)
      rw [ei] at HB
      rw [ei]
      have HR := HF.out
      rw [lanes_rows.f, if_pos HX.out, rowsN, if_pos HB.out] at HR
      simp only [Option.some.injEq, Prod.mk.injEq] at HR
      obtain ⟨rfl, rfl, rfl⟩ := HR
      go_wp2
      go_ret3
      refine ⟨rfl, ?_⟩
      repeat (first | exact hbel | apply Below.drew | apply pw_below_drewN)

end Go.Proofs.Ytpmkkohnpfpifaa.X

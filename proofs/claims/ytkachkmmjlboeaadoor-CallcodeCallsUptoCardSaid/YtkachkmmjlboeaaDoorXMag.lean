/- callcode.magnitude: contract by hand. Conditions: none. -/
import Derived.Test.YtkachkmmjlboeaaDoorXRef
import Derived.Lib.OthersKept
namespace Go.Proofs.YtkachkmmjlboeaaDoor.X
open Go.RowKit Go.Proofs.YtkachkmmjlboeaaDoor.YAll Go.Proofs.YtkachkmmjlboeaaDoorW.PrintWords Go.Proofs.YtkachkmmjlboeaaDoorW.PrintLast Go.Proofs.YtkachkmmjlboeaaDoorW.PrintMore
set_option linter.unusedVariables false
set_option linter.unusedSimpArgs false

def mag (l : List UInt8) : Nat × Bool := if tidy l = true ∧ l.length ≤ 19 then (val l, true) else (0, false)
def MagPost (w : World) (r : Nat × Bool) (e : Ending) (w' : World) : Prop := e = .returned (.tuple #[.int .u64 (r.1 : Int), .bool r.2]) ∧ Below w.heap.size w w'
theorem mag_none (l : List UInt8) (h : tidy l = false ∨ 19 < l.length) : mag l = (0, false) := by
  unfold mag
  rw [if_neg]
  rintro ⟨h1, h2⟩
  rcases h with h | h
  · rw [h] at h1; cases h1
  · omega
theorem mag_empty (w : World) : Calls Tryd.prog 23 #[.string (bs [])] w (MagPost w (mag [])) := by
  rw [mag_none [] (.inl rfl)]
  obtain ⟨s, hs⟩ : ∃ s, bs [] = s := ⟨_, rfl⟩
  rw [hs]
  have e0 : (s.toList = []) = True := eq_true (by rw [← hs, bs_list])
  have e1 : s.toList.isEmpty = true := by rw [← hs, bs_list]; rfl
  clear hs
  go_enter Tryd.func23, Tryd.ntmps23
  go_wp2
  go_ret2
  exact ⟨rfl, Below.refl _ _⟩
theorem mag_long (l : List UInt8) (w : World) (h : 19 < l.length) : Calls Tryd.prog 23 #[.string (bs l)] w (MagPost w (mag l)) := by
  rw [mag_none l (.inr h)]
  obtain ⟨s, hs⟩ : ∃ s, bs l = s := ⟨_, rfl⟩
  have hz : s.size = l.length := by rw [← hs]; exact bs_size l
  rw [hs]
  have e0 : (s.toList = []) = False := eq_false (by rw [← hs, bs_list]; intro e; rw [e] at h; simp at h)
  have e1 : (!s.toList.isEmpty) = true := by rw [← hs, bs_list]; cases l with | nil => simp at h | cons a r => rfl
  have e2 : decide ((s.size : Int) > 19) = true := decide_eq_true (by omega)
  have e3 : decide ((19 : Int) < (s.size : Int)) = true := decide_eq_true (by omega)
  have e4 : decide (19 < s.size) = true := decide_eq_true (by omega)
  clear h hs hz
  go_enter Tryd.func23, Tryd.ntmps23
  go_wp2
  go_ret2
  exact ⟨rfl, Below.refl _ _⟩

theorem mag_zero (a b : UInt8) (r : List UInt8) (w : World) (h : (a :: b :: r).length ≤ 19) (ha : a = 48) : Calls Tryd.prog 23 #[.string (bs (a :: b :: r))] w (MagPost w (mag (a :: b :: r))) := by
  rw [mag_none (a :: b :: r) (.inl (by subst ha; simp [tidy]))]
  have hb := bt_bs (a :: b :: r) 0 (by simp)
  obtain ⟨s, hs⟩ : ∃ s, bs (a :: b :: r) = s := ⟨_, rfl⟩
  have hz : s.size = r.length + 2 := by rw [← hs, bs_size]; rfl
  rw [hs] at hb ⊢
  have e0 : (s.toList = []) = False := eq_false (by rw [← hs, bs_list]; simp)
  have e1 : s.toList.isEmpty = false := by rw [← hs, bs_list]; rfl
  have e7 : ∀ h : 0 < s.size, ((s[0]'h).toNat : Int) = 48 := fun h => by
    have h2 := bt_at s 0 h
    rw [show ((0 : Nat) : Int) = 0 from rfl] at hb
    exact h2.trans (hb.trans (by subst ha; rfl))
  rw [List.length_cons, List.length_cons] at h
  have e3 : decide ((19 : Int) < (s.size : Int)) = false := decide_eq_false (by omega)
  have e5 : decide ((1 : Int) < (s.size : Int)) = true := decide_eq_true (by omega)
  have e6 : 0 < s.size := by omega
  clear h hs hz hb ha
  go_enter Tryd.func23, Tryd.ntmps23
  go_wp2
  go_ret2
  exact ⟨rfl, Below.refl _ _⟩
/-- What the rest of a text lets the number be: the loop's answer. -/
def magF : List UInt8 → Nat → Nat × Bool
  | [], u => (u, true)
  | c :: r, u => if isD c = true then magF r (10 * u + (c.toNat - 48)) else (0, false)
theorem magF_eq : ∀ (r : List UInt8) (u : Nat), magF r u = if r.all isD = true then (r.foldl (fun a c => 10 * a + (c.toNat - 48)) u, true) else (0, false)
  | [], u => rfl
  | c :: r, u => by
    unfold magF
    rw [magF_eq r, List.all_cons]
    by_cases h : isD c = true
    · rw [if_pos h, h, Bool.true_and]; rfl
    · rw [if_neg h, Bool.eq_false_iff.2 h, Bool.false_and]; rfl
theorem iter_below (w : World) (s : ByteArray) : Below w.heap.size w (w.iter s 0) := ballo (Below.refl _ _) _
theorem mag_main (l : List UInt8) (w : World) (h0 : l ≠ []) (h : l.length ≤ 19) (h1 : l.head? = some 48 → l.length = 1) : Calls Tryd.prog 23 #[.string (bs l)] w (MagPost w (magF l 0)) := by
  obtain ⟨R, hR⟩ : ∃ R, magF l 0 = R := ⟨_, rfl⟩
  rw [hR]
  obtain ⟨s, hs⟩ : ∃ s, bs l = s := ⟨_, rfl⟩
  have hz : s.size = l.length := by rw [← hs, bs_size]
  have hpos : 0 < l.length := by cases l with | nil => exact absurd rfl h0 | cons a r => simp
  have hb : ∀ i (hi : i < l.length) (h : i < s.size), ((s[i]'h).toNat : Int) = ((l[i]).toNat : Int) := by
    intro i hi h
    have h2 := bt_bs l i hi
    rw [hs] at h2
    have h3 := bt_at s (i : Int) (by simpa using h)
    simp only [Int.toNat_natCast] at h3
    exact h3.trans h2
  have hg : (∀ h : 0 < s.size, (((s[0]'h).toNat : Int) == 48) = false) ∨ ((∀ h : 0 < s.size, (((s[0]'h).toNat : Int) == 48) = true) ∧ decide ((1 : Int) < (s.size : Int)) = false) := by
    by_cases c : l.length = 1
    · cases e : ((((l[0]'hpos).toNat : Int)) == 48) with
      | true => exact .inr ⟨fun h => by rw [hb 0 hpos h]; exact e, decide_eq_false (by omega)⟩
      | false => exact .inl (fun h => by rw [hb 0 hpos h]; exact e)
    · left
      intro h
      rw [hb 0 hpos h]
      rw [beq_eq_false_iff_ne]
      intro e
      apply c
      apply h1
      have e2 : (l[0]) = 48 := by
        have := UInt8.ofNat_toNat (x := l[0])
        rw [show (l[0]).toNat = 48 by omega] at this
        exact this.symm
      rw [List.head?_eq_getElem?, List.getElem?_eq_getElem hpos, e2]
  rw [hs]
  have e0 : (s.toList = []) = False := eq_false (by rw [← hs, bs_list]; exact h0)
  have e1 : s.toList.isEmpty = false := by rw [← hs, bs_list]; cases l with | nil => exact absurd rfl h0 | cons a r => rfl
  have e3 : decide ((19 : Int) < (s.size : Int)) = false := decide_eq_false (by omega)
  have e6 : 0 < s.size := by omega
  have HB := Aside0.mk hb
  have HZ := Aside0.mk (And.intro hz h)
  have HR := Aside0.mk hR
  clear h0 h h1 hs hz hpos hb hR
  rcases hg with g | ⟨g, g2⟩
  · go_enter Tryd.func23, Tryd.ntmps23
    go_wp2_with fail
    go_loopg [4] l.length (fun kq v4 w' => ∃ (u i : Nat), v4 = .int .u64 (u : Int) ∧ Aside0 (i + kq = l.length) ∧ Aside0 (magF (l.drop i) u = R) ∧ Aside0 (u < 10 ^ i) ∧ Aside0 (w'.heap[w.heap.size]? = some (.stringIter s i)) ∧ Aside0 (Below w.heap.size w w'))
    case atStart => exact ⟨0, 0, rfl, ⟨by omega⟩, ⟨by rw [List.drop_zero]; exact HR.out⟩, ⟨by decide⟩, ⟨World.iter_heap w s 0⟩, ⟨iter_below w s⟩⟩
    case round =>
      obtain ⟨u, i, rfl, HI, HM, HU, HT, HX⟩ := hrel
      by_cases hp : i < s.size
      · have hl : i < l.length := by have := HZ.out; omega
        obtain ⟨k, rfl⟩ : ∃ k, gk = k + 1 := ⟨gk - 1, by have := HI.out; omega⟩
        have hM := HM.out
        rw [List.drop_eq_getElem_cons hl, magF] at hM
        obtain ⟨rn, hrn⟩ : ∃ rn : Int, ((Utf8.decode s i).1 : Int) = rn := ⟨_, rfl⟩
        have hby := HB.out i hl hp
        have hnx : ∀ ty, (Instr.next (.pointer (some ⟨w.heap.size, 0, none⟩)) true ty).run Tryd.prog wr = _ := fun ty => Lib.run_next_any_at wr w.heap.size s i ty HT.out hp
        rw [hrn] at hnx
        by_cases hd : isD l[i] = true
        · rw [if_pos hd] at hM
          have hd2 := hd
          unfold isD at hd2
          simp only [Bool.and_eq_true, decide_eq_true_eq] at hd2
          have ha : (s[i]'hp).toNat < 128 := by omega
          have hdec := decode_ascii s i hp ha
          have hrn2 : rn = ((l[i]).toNat : Int) := by rw [← hrn, hdec]; exact hby
          rw [hdec] at hnx
          have c1 : decide (rn < 48) = false := decide_eq_false (by omega)
          have c2 : decide ((57 : Int) < rn) = false := decide_eq_false (by omega)
          have hu : (u : Int) < 10 ^ 18 := by
            have h1 := HU.out
            have h2 := HZ.out
            have : u < 10 ^ 18 := Nat.lt_of_lt_of_le h1 (Nat.pow_le_pow_right (by omega) (by omega))
            exact_mod_cast this
          have w1 : IntKind.u64.wrap (10 * (u : Int)) = 10 * (u : Int) := IntWalk.u64_in _ ⟨by omega, by omega⟩
          have w2 : IntKind.u64.wrap (rn - 48) = rn - 48 := IntWalk.u64_in _ ⟨by omega, by omega⟩
          have w3 : IntKind.u64.wrap (10 * (u : Int) + (rn - 48)) = ((10 * u + ((l[i]).toNat - 48) : Nat) : Int) := by rw [IntWalk.u64_in _ ⟨by omega, by omega⟩]; omega
          have r0 : (48 : Int) ≤ rn := by omega
          have r1 : rn ≤ 57 := by omega
          have HM2 := Aside0.mk hM
          have HU2 : Aside0 (10 * u + ((l[i]).toNat - 48) < 10 ^ (i + 1)) := ⟨by have := HU.out; rw [Nat.pow_succ]; omega⟩
          have HP := Aside0.mk hp
          have HT2 := Aside0.mk (Lib.iterAt_heap wr w.heap.size s i (i + 1) HT.out)
          have HX2 := Aside0.mk (Lib.below_iterAt HX.out (k := w.heap.size) (Nat.le_refl _) s (i + 1))
          obtain ⟨u2, hu2⟩ : ∃ u2, 10 * u + ((l[i]).toNat - 48) = u2 := ⟨_, rfl⟩
          rw [hu2] at HM2 HU2 w3
          simp only at hnx
          clear hM hrn hby hd hd2 hdec hrn2 hu hu2 hl hp ha
          go_wp2_with fail
          go_roundg k
          case measure => omega
          case rel => exact ⟨u2, i + 1, rfl, ⟨by have := HI.out; omega⟩, HM2, HU2, HT2, HX2⟩
        · rw [if_neg hd] at hM
          subst hM
          have HX2 := Aside0.mk (Lib.below_iterAt HX.out (k := w.heap.size) (Nat.le_refl _) s (i + (Utf8.decode s i).2))
          have hd3 : rn < 48 ∨ 57 < rn := by
            by_cases ha : (s[i]'hp).toNat < 128
            · have hdec := decode_ascii s i hp ha
              have hrn2 : rn = ((l[i]).toNat : Int) := by rw [← hrn, hdec]; exact hby
              unfold isD at hd
              simp only [Bool.and_eq_true, decide_eq_true_eq] at hd
              omega
            · have := (decode_high s i hp (by omega)).1
              omega
          have hcc : decide (rn < 48) = true ∨ (decide (rn < 48) = false ∧ decide ((57 : Int) < rn) = true) := by
            by_cases c : rn < 48
            · exact .inl (decide_eq_true c)
            · exact .inr ⟨decide_eq_false c, decide_eq_true (by omega)⟩
          clear hd3 hrn hby hd hl hp
          rcases hcc with c1 | ⟨c1, c2⟩
          all_goals
            go_wp2_with fail
            go_ret2
            exact ⟨rfl, HX2.out⟩
      · have hl : l.length ≤ i := by have := HZ.out; omega
        have hM := HM.out
        rw [List.drop_eq_nil_of_le hl, magF] at hM
        subst hM
        have hnx : ∀ ty, (Instr.next (.pointer (some ⟨w.heap.size, 0, none⟩)) true ty).run Tryd.prog wr = _ := fun ty => Lib.run_next_end_at wr w.heap.size s i ty HT.out hp
        clear hp hl
        go_wp2_with fail
        go_ret2
        exact ⟨rfl, HX.out⟩
  · go_enter Tryd.func23, Tryd.ntmps23
    go_wp2_with fail
    go_loopg [4] l.length (fun kq v4 w' => ∃ (u i : Nat), v4 = .int .u64 (u : Int) ∧ Aside0 (i + kq = l.length) ∧ Aside0 (magF (l.drop i) u = R) ∧ Aside0 (u < 10 ^ i) ∧ Aside0 (w'.heap[w.heap.size]? = some (.stringIter s i)) ∧ Aside0 (Below w.heap.size w w'))
    case atStart => exact ⟨0, 0, rfl, ⟨by omega⟩, ⟨by rw [List.drop_zero]; exact HR.out⟩, ⟨by decide⟩, ⟨World.iter_heap w s 0⟩, ⟨iter_below w s⟩⟩
    case round =>
      obtain ⟨u, i, rfl, HI, HM, HU, HT, HX⟩ := hrel
      by_cases hp : i < s.size
      · have hl : i < l.length := by have := HZ.out; omega
        obtain ⟨k, rfl⟩ : ∃ k, gk = k + 1 := ⟨gk - 1, by have := HI.out; omega⟩
        have hM := HM.out
        rw [List.drop_eq_getElem_cons hl, magF] at hM
        obtain ⟨rn, hrn⟩ : ∃ rn : Int, ((Utf8.decode s i).1 : Int) = rn := ⟨_, rfl⟩
        have hby := HB.out i hl hp
        have hnx : ∀ ty, (Instr.next (.pointer (some ⟨w.heap.size, 0, none⟩)) true ty).run Tryd.prog wr = _ := fun ty => Lib.run_next_any_at wr w.heap.size s i ty HT.out hp
        rw [hrn] at hnx
        by_cases hd : isD l[i] = true
        · rw [if_pos hd] at hM
          have hd2 := hd
          unfold isD at hd2
          simp only [Bool.and_eq_true, decide_eq_true_eq] at hd2
          have ha : (s[i]'hp).toNat < 128 := by omega
          have hdec := decode_ascii s i hp ha
          have hrn2 : rn = ((l[i]).toNat : Int) := by rw [← hrn, hdec]; exact hby
          rw [hdec] at hnx
          have c1 : decide (rn < 48) = false := decide_eq_false (by omega)
          have c2 : decide ((57 : Int) < rn) = false := decide_eq_false (by omega)
          have hu : (u : Int) < 10 ^ 18 := by
            have h1 := HU.out
            have h2 := HZ.out
            have : u < 10 ^ 18 := Nat.lt_of_lt_of_le h1 (Nat.pow_le_pow_right (by omega) (by omega))
            exact_mod_cast this
          have w1 : IntKind.u64.wrap (10 * (u : Int)) = 10 * (u : Int) := IntWalk.u64_in _ ⟨by omega, by omega⟩
          have w2 : IntKind.u64.wrap (rn - 48) = rn - 48 := IntWalk.u64_in _ ⟨by omega, by omega⟩
          have w3 : IntKind.u64.wrap (10 * (u : Int) + (rn - 48)) = ((10 * u + ((l[i]).toNat - 48) : Nat) : Int) := by rw [IntWalk.u64_in _ ⟨by omega, by omega⟩]; omega
          have r0 : (48 : Int) ≤ rn := by omega
          have r1 : rn ≤ 57 := by omega
          have HM2 := Aside0.mk hM
          have HU2 : Aside0 (10 * u + ((l[i]).toNat - 48) < 10 ^ (i + 1)) := ⟨by have := HU.out; rw [Nat.pow_succ]; omega⟩
          have HP := Aside0.mk hp
          have HT2 := Aside0.mk (Lib.iterAt_heap wr w.heap.size s i (i + 1) HT.out)
          have HX2 := Aside0.mk (Lib.below_iterAt HX.out (k := w.heap.size) (Nat.le_refl _) s (i + 1))
          obtain ⟨u2, hu2⟩ : ∃ u2, 10 * u + ((l[i]).toNat - 48) = u2 := ⟨_, rfl⟩
          rw [hu2] at HM2 HU2 w3
          simp only at hnx
          clear hM hrn hby hd hd2 hdec hrn2 hu hu2 hl hp ha
          go_wp2_with fail
          go_roundg k
          case measure => omega
          case rel => exact ⟨u2, i + 1, rfl, ⟨by have := HI.out; omega⟩, HM2, HU2, HT2, HX2⟩
        · rw [if_neg hd] at hM
          subst hM
          have HX2 := Aside0.mk (Lib.below_iterAt HX.out (k := w.heap.size) (Nat.le_refl _) s (i + (Utf8.decode s i).2))
          have hd3 : rn < 48 ∨ 57 < rn := by
            by_cases ha : (s[i]'hp).toNat < 128
            · have hdec := decode_ascii s i hp ha
              have hrn2 : rn = ((l[i]).toNat : Int) := by rw [← hrn, hdec]; exact hby
              unfold isD at hd
              simp only [Bool.and_eq_true, decide_eq_true_eq] at hd
              omega
            · have := (decode_high s i hp (by omega)).1
              omega
          have hcc : decide (rn < 48) = true ∨ (decide (rn < 48) = false ∧ decide ((57 : Int) < rn) = true) := by
            by_cases c : rn < 48
            · exact .inl (decide_eq_true c)
            · exact .inr ⟨decide_eq_false c, decide_eq_true (by omega)⟩
          clear hd3 hrn hby hd hl hp
          rcases hcc with c1 | ⟨c1, c2⟩
          all_goals
            go_wp2_with fail
            go_ret2
            exact ⟨rfl, HX2.out⟩
      · have hl : l.length ≤ i := by have := HZ.out; omega
        have hM := HM.out
        rw [List.drop_eq_nil_of_le hl, magF] at hM
        subst hM
        have hnx : ∀ ty, (Instr.next (.pointer (some ⟨w.heap.size, 0, none⟩)) true ty).run Tryd.prog wr = _ := fun ty => Lib.run_next_end_at wr w.heap.size s i ty HT.out hp
        clear hp hl
        go_wp2_with fail
        go_ret2
        exact ⟨rfl, HX.out⟩
end Go.Proofs.YtkachkmmjlboeaaDoor.X

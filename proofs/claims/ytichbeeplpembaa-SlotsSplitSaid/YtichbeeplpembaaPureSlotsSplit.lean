/- What is counted below a place, and from there on, is what is counted, and a listed bit is had, in rising order. Conditions: none. -/
import Derived.Test.YtichbeeplpembaaYSlotsSplitx1
import Derived.Test.YtichbeeplpembaaBits
namespace Go.Proofs.Ytichbeeplpembaa.Pure
open Go.RowKit Go.Proofs.Ytichbeeplpembaa.X Go.Proofs.Ytichbeeplpembaa.YSlotsSplit Go.Proofs.YtichbeeplpembaaW.PrintWords Go.Proofs.YtichbeeplpembaaW.PrintLast Go.Proofs.YtichbeeplpembaaW.PrintMore

namespace SlotsSplitAid
theorem wf64 {a : Int} (h : (Lit.int .i64 a).wf = true) : -9223372036854775808 ≤ a ∧ a ≤ 9223372036854775807 := by
  simpa [Lit.wf, IntKind.min, IntKind.max, IntKind.bits, IntKind.signed] using h
theorem w64 {a : Int} (h0 : -9223372036854775808 ≤ a) (h1 : a ≤ 9223372036854775807) : wrap64 a = a := by unfold wrap64; omega
theorem lives_eq : assartlaw04_lives.f = some true := by decide +kernel
theorem hasE (x i : Int) : slots_Has.f x i = some (hasB x i) := rfl
theorem setE (x i : Int) : slots_Set.f x i = some (setN x i) := rfl
theorem clrE (x i : Int) : slots_Clear.f x i = some (clrN x i) := rfl
theorem firstE (x n : Int) : slots_First.f x n = some (firstFrom x (placesN n)) := rfl
theorem countE (x n : Int) : slots_Count.f x n = some (countFrom x (placesN n) : Int) := rfl
theorem listE (x n : Int) : slots_List.f x n = some (listFrom x (placesN n)) := rfl
theorem list_succ (x : Int) (c : Nat) : listFrom x (c + 1) = if hasB x c = true then listFrom x c ++ [(c : Int)] else listFrom x c := by
  unfold listFrom
  rw [upto_succ]
  cases hb : hasB x c with
  | true => rw [if_pos rfl, listL_hit]
  | false => rw [if_neg (by simp), listL_miss]
theorem count_succ (x : Int) (c : Nat) : countFrom x (c + 1) = countFrom x c + if hasB x c = true then 1 else 0 := by
  unfold countFrom
  rw [upto_succ]
  cases hb : hasB x c with
  | true => rw [countL_hit]; rfl
  | false => rw [countL_miss]; rfl
/-- Each member of a list of bits is one that is had, below c; they rise; and of them just so many are below n as are counted there. -/
theorem list_facts (x n : Int) (c : Nat) : (∀ a ∈ listFrom x c, hasB x a = true ∧ 0 ≤ a ∧ a < c) ∧ (listFrom x c).Pairwise (· < ·) ∧ (listFrom x c).length = countFrom x c ∧ (((listFrom x c).filter fun a => decide (a < n)).length = countFrom x (min c n.toNat)) := by
  induction c with
  | zero =>
    have h : listFrom x 0 = [] := rfl
    rw [h]
    have h2 : countFrom x 0 = 0 := rfl
    refine ⟨by simp, by simp, by simp [h2], by simp [h2]⟩
  | succ c ih =>
    obtain ⟨i1, i2, i3, i4⟩ := ih
    rw [list_succ, count_succ]
    cases hb : hasB x c with
    | false =>
      simp only [Bool.false_eq_true, if_false, Nat.add_zero]
      refine ⟨fun a ha => ?_, i2, i3, ?_⟩
      · have := i1 a ha; exact ⟨this.1, this.2.1, by omega⟩
      · rw [i4]
        by_cases h : c < n.toNat
        · rw [show min (c + 1) n.toNat = c + 1 by omega, show min c n.toNat = c by omega, count_succ, hb]; simp
        · rw [show min (c + 1) n.toNat = n.toNat by omega, show min c n.toNat = n.toNat by omega]
    | true =>
      simp only [if_true]
      refine ⟨fun a ha => ?_, ?_, ?_, ?_⟩
      · rcases List.mem_append.1 ha with h | h
        · have := i1 a h; exact ⟨this.1, this.2.1, by omega⟩
        · simp at h; subst h; exact ⟨hb, by omega, by omega⟩
      · rw [List.pairwise_append]
        refine ⟨i2, by simp, ?_⟩
        intro a ha b hb'
        simp at hb'; subst hb'
        have := i1 a ha; omega
      · simp [i3]
      · rw [List.filter_append, List.length_append, i4]
        by_cases h : c < n.toNat
        · rw [show min (c + 1) n.toNat = c + 1 by omega, show min c n.toNat = c by omega, count_succ, hb]
          have : decide ((c : Int) < n) = true := by apply decide_eq_true; omega
          simp [this]
        · rw [show min (c + 1) n.toNat = n.toNat by omega, show min c n.toNat = n.toNat by omega]
          have : decide ((c : Int) < n) = false := by apply decide_eq_false; omega
          simp [this]
theorem rd_get (l : List Int) (p : Nat) (h : p < l.length) : rd l (p : Int) = l[p] := by
  unfold rd; simp [List.getD, h]
theorem count_le (x : Int) (c : Nat) : countFrom x c ≤ c := by
  unfold countFrom
  have := countL_le (upto (fun j => ((j : Int), hasB x j)) c)
  rwa [upto_length] at this
theorem loop (x n : Int) (l : List Int) (hl : l.length ≤ 32) (h1 : ∀ a ∈ l, hasB x a = true ∧ 0 ≤ a ∧ a < 32) (h2 : l.Pairwise (· < ·)) (h3 : (l.length : Int) = countFrom x 32)
    (h4 : ((l.filter fun a => decide (a < n)).length : Int) = countFrom x (placesN n)) (d : Nat) : ∀ (p k : Nat), p + d = l.length → 2 * d + 1 ≤ k →
    assartlaw04_SlotsSplit.l0 k x n l (((l.take p).filter fun a => decide (a < n)).length : Int) (p : Int) = some true := by
  induction d with
  | zero =>
    intro p k hp hk
    obtain ⟨k, rfl⟩ : ∃ m, k = m + 1 := ⟨k - 1, by omega⟩
    simp only [assartlaw04_SlotsSplit.l0]
    rw [if_neg (by omega), countE, countE, lives_eq, List.take_of_length_le (by omega)]
    simp only [Option.bind_some]
    rw [h4, if_pos rfl, show placesN 32 = 32 from rfl, if_pos h3]
  | succ d ih =>
    intro p k hp hk
    have hlt : p < l.length := by omega
    obtain ⟨k, rfl⟩ : ∃ m, k = m + 2 := ⟨k - 2, by omega⟩
    have hm := h1 l[p] (List.getElem_mem hlt)
    have hfl : ((l.take p).filter fun a => decide (a < n)).length ≤ 32 := by
      have := List.length_filter_le (fun a => decide (a < n)) (l.take p)
      have := List.length_take_le p l
      omega
    have j : assartlaw04_SlotsSplit.j1 (k + 1) x n l (((l.take p).filter fun a => decide (a < n)).length : Int) (p : Int) false = some true := by
      simp only [assartlaw04_SlotsSplit.j1, Bool.false_eq_true, if_false]
      rw [if_pos (by omega), if_pos (by omega), rd_get l p hlt, w64 (a := (p : Int) + 1) (by omega) (by omega)]
      have hn := ih (p + 1) k (by omega) (by omega)
      rw [List.take_succ_eq_append_getElem hlt, List.filter_append, List.length_append] at hn
      by_cases h : l[p] < n
      · rw [if_pos h, w64 (by omega) (by omega)]
        rw [show ([l[p]].filter fun a => decide (a < n)) = [l[p]] by simp [h]] at hn
        exact hn
      · rw [if_neg h]
        rw [show ([l[p]].filter fun a => decide (a < n)) = [] by simp [h]] at hn
        exact hn
    simp only [assartlaw04_SlotsSplit.l0]
    rw [if_pos (by omega), if_pos (by omega), rd_get l p hlt, hasE, hm.1]
    simp only [Option.bind_some, if_true]
    by_cases h0 : (p : Int) > 0
    · rw [if_pos h0, w64 (a := (p : Int) - 1) (by omega) (by omega), if_pos (by omega), if_pos (by omega)]
      obtain ⟨q, rfl⟩ : ∃ q, p = q + 1 := ⟨p - 1, by omega⟩
      rw [show (((q + 1 : Nat) : Int) - 1) = (q : Int) by omega, rd_get l q (by omega)]
      have := List.pairwise_iff_getElem.1 h2 q (q + 1) (by omega) hlt (by omega)
      rw [decide_eq_false (by omega)]
      exact j
    · rw [if_neg h0]; exact j
end SlotsSplitAid
open SlotsSplitAid

theorem SlotsSplit : assartlaw04_SlotsSplit.Pure := by
  intro x n _ _
  refine ⟨100, ?_⟩
  unfold assartlaw04_SlotsSplit.f
  rw [listE, show placesN 32 = 32 from rfl]
  simp only [Option.bind_some]
  obtain ⟨f1, f2, f3, f4⟩ := list_facts x n 32
  have hc := count_le x 32
  have hp : min 32 n.toNat = placesN n := by have := placesN_cases n; omega
  rw [hp] at f4
  have := loop x n (listFrom x 32) (by omega) f1 f2 (by omega) (by omega) (listFrom x 32).length 0 100 (by omega) (by omega)
  simpa using this

end Go.Proofs.Ytichbeeplpembaa.Pure

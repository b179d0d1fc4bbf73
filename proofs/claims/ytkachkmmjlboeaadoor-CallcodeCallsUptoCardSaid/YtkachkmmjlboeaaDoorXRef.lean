/- The reference's Num and Read: what they tell. Conditions: none. -/
import Derived.Test.YtkachkmmjlboeaaDoorXNum
import Derived.Test.YtkachkmmjlboeaaDoorYAllx3
namespace Go.Proofs.YtkachkmmjlboeaaDoor.X
open Go.RowKit Go.Proofs.YtkachkmmjlboeaaDoor.YAll Go.Proofs.YtkachkmmjlboeaaDoorW.PrintWords Go.Proofs.YtkachkmmjlboeaaDoorW.PrintLast Go.Proofs.YtkachkmmjlboeaaDoorW.PrintMore
set_option linter.unusedVariables false
set_option linter.unusedSimpArgs false

theorem num_calls (n : Int) (w : World) (h : In64 n) : Calls Tryd.prog 10 #[.int .i64 n] w fun e w' => e = .returned (.string (bs (numL n))) ∧ Below w.heap.size w w' := by
  by_cases c : n < 0
  · exact num_neg n w c h.1
  · exact num_pos n w (by omega) h.2
theorem w64 {a : Int} (h0 : -9223372036854775808 ≤ a) (h1 : a ≤ 9223372036854775807) : wrap64 a = a := by unfold wrap64; omega
theorem bs_list (l : List UInt8) : (bs l).toList = l := by
  rw [ByteArray.toList_eq]
  rfl
theorem one_digit (u : Nat) (h : u ≤ 18446744073709551615) : strOfNums [(IntKind.u64.wrap (48 + (Int.tmod (u : Int) 10))) % 256] = bs [dig (u % 10)] := by
  have e : (IntKind.u64.wrap (48 + (Int.tmod (u : Int) 10))) % 256 = ((dig (u % 10)).toNat : Int) := by
    rw [dig_nat _ (Nat.mod_lt _ (by omega)), Int.tmod_eq_emod_of_nonneg (by omega), IntWalk.u64_in _ ⟨by omega, by omega⟩]
    omega
  rw [e]
  exact strOfNums_bs [dig (u % 10)]
def finN (n : Int) (l : List UInt8) : ByteArray := if n < 0 then bs (45 :: l) else bs l
theorem refnum_end (n : Int) (l : List UInt8) (k : Nat) (hl : l ≠ []) (hs : l.length ≤ 100) : assartref30_Num.l0 (k + 1) n 0 (bs l) = some (finN n l) := by
  simp only [assartref30_Num.l0]
  rw [if_neg (by omega), bs_list, if_neg hl]
  unfold finN
  by_cases c : n < 0
  · rw [if_pos c, if_pos c, if_pos (by rw [bs_size]; omega)]
    exact congrArg some (bs_append [45] l)
  · rw [if_neg c, if_neg c]
theorem refnum_l (n : Int) : ∀ (f u : Nat) (acc : List UInt8) (k : Nat), u < 10 ^ (f + 1) → u ≤ 18446744073709551615 → (0 < u ∨ acc = []) → acc.length + f ≤ 50 → f + 2 ≤ k → assartref30_Num.l0 k n (u : Int) (bs acc) = some (finN n (dgF (f + 1) u ++ acc)) := by
  intro f
  induction f with
  | zero =>
    intro u acc k hu hb hc hl hk
    obtain ⟨k, rfl⟩ : ∃ m, k = m + 1 + 1 := ⟨k - 2, by omega⟩
    have e : dgF (0 + 1) u ++ acc = dig (u % 10) :: acc := by unfold dgF; rw [if_pos (by simpa using hu), Nat.mod_eq_of_lt (by simpa using hu)]; rfl
    have step : assartref30_Num.l0 (k + 1) n (IntKind.u64.wrap (Int.tdiv (u : Int) 10)) (strOfNums [(IntKind.u64.wrap (48 + (Int.tmod (u : Int) 10))) % 256] ++ bs acc) = some (finN n (dig (u % 10) :: acc)) := by
      rw [one_digit u hb, bs_append, Int.tdiv_eq_ediv_of_nonneg (by omega), IntWalk.u64_in _ ⟨by omega, by omega⟩, show (u : Int) / 10 = 0 by simp at hu; omega]
      exact refnum_end n _ k (by simp) (by simp; omega)
    have sz : (strOfNums [(IntKind.u64.wrap (48 + (Int.tmod (u : Int) 10))) % 256]).size + (bs acc).size ≤ 9223372036854775807 := by rw [one_digit u hb, bs_size, bs_size]; simp; omega
    rw [e, assartref30_Num.l0]
    simp only [Option.bind_some]
    by_cases c : (u : Int) > 0
    · rw [if_pos c, if_pos sz, step]
    · rw [if_neg c, if_pos (by rw [bs_list]; exact hc.resolve_left (by omega)), if_pos sz, step]
  | succ f ih =>
    intro u acc k hu hb hc hl hk
    obtain ⟨k, rfl⟩ : ∃ m, k = m + 1 := ⟨k - 1, by omega⟩
    have step : assartref30_Num.l0 k n (IntKind.u64.wrap (Int.tdiv (u : Int) 10)) (strOfNums [(IntKind.u64.wrap (48 + (Int.tmod (u : Int) 10))) % 256] ++ bs acc) = some (finN n (dgF (f + 1 + 1) u ++ acc)) := by
      rw [one_digit u hb, bs_append, Int.tdiv_eq_ediv_of_nonneg (by omega), IntWalk.u64_in _ ⟨by omega, by omega⟩, show (u : Int) / 10 = ((u / 10 : Nat) : Int) by omega]
      by_cases c : u < 10
      · rw [show u / 10 = 0 by omega]
        have e : dgF (f + 1 + 1) u ++ acc = dig (u % 10) :: acc := by unfold dgF; rw [if_pos c, Nat.mod_eq_of_lt c]; rfl
        rw [e]
        obtain ⟨k, rfl⟩ : ∃ m, k = m + 1 := ⟨k - 1, by omega⟩
        exact refnum_end n _ k (by simp) (by simp; omega)
      · have e : dgF (f + 1 + 1) u ++ acc = dgF (f + 1) (u / 10) ++ (dig (u % 10) :: acc) := by
          show (if u < 10 then [dig u] else dgF (f + 1) (u / 10) ++ [dig (u % 10)]) ++ acc = _
          rw [if_neg c, List.append_assoc]; rfl
        rw [e]
        exact ih (u / 10) (dig (u % 10) :: acc) k (by rw [Nat.pow_succ] at hu; omega) (by omega) (.inl (by omega)) (by rw [List.length_cons]; omega) (by omega)
    have sz : (strOfNums [(IntKind.u64.wrap (48 + (Int.tmod (u : Int) 10))) % 256]).size + (bs acc).size ≤ 9223372036854775807 := by rw [one_digit u hb, bs_size, bs_size]; simp; omega
    rw [assartref30_Num.l0]
    simp only [Option.bind_some]
    by_cases c : (u : Int) > 0
    · rw [if_pos c, if_pos sz, step]
    · rw [if_neg c, if_pos (by rw [bs_list]; exact hc.resolve_left (by omega)), if_pos sz, step]
theorem refnum_f (n : Int) (h : In64 n) (k : Nat) : assartref30_Num.f (k + 40) n = some (bs (numL n)) := by
  have key := refnum_l n 24 n.natAbs [] (k + 39) (by have := h.1; have := h.2; omega) (by have := h.1; have := h.2; omega) (.inr rfl) (by simp) (by omega)
  rw [List.append_nil] at key
  have e : (bs [] : ByteArray) = ⟨#[]⟩ := rfl
  rw [e] at key
  unfold assartref30_Num.f
  by_cases c : n < 0
  · rw [if_pos c, show IntKind.u64.wrap (-(IntKind.u64.wrap n)) = (n.natAbs : Int) by have := h.1; simp [IntKind.wrap, IntKind.bits, IntKind.signed]; omega]
    simp only [assartref30_Num.j0]
    rw [key]
    unfold finN numL
    rw [if_pos c, if_pos c]
    rfl
  · rw [if_neg c, show IntKind.u64.wrap n = (n.natAbs : Int) by have := h.2; rw [IntWalk.u64_in _ ⟨by omega, by omega⟩]; omega]
    simp only [assartref30_Num.j0]
    rw [key]
    unfold finN numL
    rw [if_neg c, if_neg c]
    rfl

/-! ### Read -/
def rdV (l : List UInt8) : Int × Bool := match rdL l with
  | some n => (n, true)
  | none => (0, false)
theorem bt_bs (l : List UInt8) (i : Nat) (h : i < l.length) : bt (bs l) (i : Int) = ((l[i]).toNat : Int) := by
  unfold bt
  rw [dif_pos (by rw [bs_size]; simpa using h)]
  rfl
/-- A whole number of 64 bits, unsigned. -/
def md (x : Nat) : Nat := x % 18446744073709551616
theorem md_of {x : Nat} (h : x < 18446744073709551616) : md x = x := Nat.mod_eq_of_lt h
theorem md_0 : md 0 = 0 := md_of (by decide)
theorem md_step (x d : Nat) (h0 : 48 ≤ d) (h1 : d ≤ 57) : IntKind.u64.wrap ((IntKind.u64.wrap (10 * (md x : Int))) + (((d : Int) - 48) % 256)) = (md (10 * x + (d - 48)) : Int) := by
  unfold md
  rw [IntKind.wrap_u64, IntKind.wrap_u64]
  omega
theorem neg_wrap (v : Nat) (h1 : 1 ≤ v) (h2 : v ≤ 9223372036854775808) : wrap64 (IntKind.u64.wrap (-(v : Int))) = -(v : Int) := by
  rw [IntKind.wrap_u64]
  unfold wrap64
  omega
theorem in_wrap (a : Int) : In64 (wrap64 a) := by unfold In64 wrap64; omega
/-- The number that is told. -/
def nOf : Bool → Int → Int
  | true, U => wrap64 (IntKind.u64.wrap (-U))
  | false, U => wrap64 U
theorem nOf_true (U : Int) : nOf true U = wrap64 (IntKind.u64.wrap (-U)) := by rw [nOf]
theorem nOf_false (U : Int) : nOf false U = wrap64 U := by rw [nOf]
theorem in_nOf (neg : Bool) (U : Int) : In64 (nOf neg U) := by
  cases neg with
  | true => rw [nOf_true]; exact in_wrap _
  | false => rw [nOf_false]; exact in_wrap _
def endR (l : List UInt8) (neg : Bool) (U : Int) : Option (Int × Bool) := if numL (nOf neg U) = l then some (nOf neg U, true) else some (0, false)
theorem refread_l (l : List UInt8) (neg : Bool) (hl : l.length ≤ 1000) (m : Nat) : ∀ (d i : Nat) (x : Nat), i + d = l.length → assartref30_Read.l0 (d + (m + 41)) (bs l) (if neg then 1 else 0) (md x : Int) (i : Int) = if (l.drop i).all isD = true then endR l neg (md ((l.drop i).foldl (fun a c => 10 * a + (c.toNat - 48)) x) : Int) else some (0, false) := by
  intro d
  induction d with
  | zero =>
    intro i x hi
    rw [show 0 + (m + 41) = (m + 40) + 1 by omega, assartref30_Read.l0]
    rw [if_neg (by rw [bs_size]; omega), List.drop_eq_nil_of_le (by omega)]
    simp only [List.all_nil, if_true, List.foldl_nil]
    unfold endR
    cases neg with
    | true =>
      rw [if_pos (by rfl), refnum_f _ (in_wrap _) m, Option.bind_some, bs_list, bs_list, nOf_true]
    | false =>
      rw [if_neg (by decide), refnum_f _ (in_wrap _) m, Option.bind_some, bs_list, bs_list, nOf_false]
  | succ d ih =>
    intro i x hi
    have hlt : i < l.length := by omega
    rw [show d + 1 + (m + 41) = (d + (m + 41)) + 1 by omega, assartref30_Read.l0]
    rw [if_pos (by rw [bs_size]; omega), if_pos (by omega), bt_bs l i hlt, List.drop_eq_getElem_cons hlt, List.all_cons]
    by_cases c1 : ((l[i]).toNat : Int) < 48
    · rw [if_pos c1, if_neg (by unfold isD; simp; omega)]
    · by_cases c2 : ((l[i]).toNat : Int) > 57
      · rw [if_neg c1, if_pos c2, if_neg (by unfold isD; simp; omega)]
      · rw [if_neg c1, if_neg c2]
        have hd : isD l[i] = true := by unfold isD; simp; omega
        have hx := md_step x (l[i]).toNat (by omega) (by omega)
        rw [hx, w64 (a := (i : Int) + 1) (by omega) (by omega), show (i : Int) + 1 = ((i + 1 : Nat) : Int) by omega, ih (i + 1) _ (by omega), hd, Bool.true_and]
        simp only [List.foldl_cons]
theorem refread_end (l r : List UInt8) (neg : Bool) (hr : l = (if neg then 45 :: r else r)) (h45 : neg = false → ∀ t, l ≠ 45 :: t) (hd : r.all isD = true) (hlen : r.length ≤ 1000) : endR l neg (md (val r) : Int) = some (rdV l) := by
  unfold endR
  obtain ⟨n, hn⟩ : ∃ n, nOf neg (md (val r) : Int) = n := ⟨_, rfl⟩
  have hin : In64 n := by rw [← hn]; exact in_nOf _ _
  rw [hn]
  unfold rdV
  by_cases c : numL n = l
  · rw [if_pos c, ← c, rdL_num n hin]
  · rw [if_neg c]
    cases e : rdL l with
    | none => rfl
    | some m =>
      exfalso
      apply c
      have h1 := num_rdL l m e
      have : m = n := by
        cases neg with
        | true =>
          have hr2 : l = 45 :: r := hr
          subst hr2
          clear hr
          have e2 : (if tidy r = true ∧ r.length ≤ 19 ∧ 1 ≤ val r ∧ val r ≤ 9223372036854775808 then some (-(val r : Int)) else none) = some m := e
          clear e
          have e := e2
          split at e
          · rename_i hc
            obtain rfl := Option.some.inj e
            rw [← hn, nOf_true, md_of (by omega), neg_wrap _ hc.2.2.1 hc.2.2.2]
          · cases e
        | false =>
          have hr2 : l = r := hr
          subst hr2
          clear hr
          unfold rdL at e
          split at e
          · rename_i t; exact absurd rfl (h45 rfl t)
          · split at e
            · rename_i hc
              obtain rfl := Option.some.inj e
              rw [← hn, nOf_false, md_of (by omega), w64 (by omega) (by omega)]
            · cases e
      rw [← this]
      exact h1.1
theorem rdV_none {l : List UInt8} (h : rdL l = none) : rdV l = (0, false) := by unfold rdV; rw [h]
theorem rdL_some {l : List UInt8} {n : Int} (h : rdL l = some n) : l ≠ [] ∧ l.length ≤ 20 ∧ (if l.head? = some 45 then l.tail else l).all isD = true := by
  unfold rdL at h
  split at h
  · rename_i r
    split at h
    · rename_i c
      exact ⟨by simp, by simp; omega, by simpa using (tidy_all c.1).1⟩
    · cases h
  · rename_i hx
    split at h
    · rename_i c
      refine ⟨(tidy_all c.1).2, by omega, ?_⟩
      rw [if_neg (by intro e; cases l with | nil => cases e | cons a t => simp at e; subst e; exact hx t rfl)]
      exact (tidy_all c.1).1
    · cases h
theorem refread_f (l : List UInt8) : assartref30_Read.f 100 (bs l) = some (rdV l) := by
  unfold assartref30_Read.f
  rw [bs_size]
  by_cases c0 : (l.length : Int) < 1
  · rw [if_pos c0]
    simp only [assartref30_Read.j0]
    rw [if_pos trivial]
    have : l = [] := List.eq_nil_of_length_eq_zero (by omega)
    subst this
    rfl
  rw [if_neg c0]
  simp only [assartref30_Read.j0]
  by_cases c1 : (l.length : Int) > 20
  · rw [if_pos (by simp; omega)]
    congr 1
    cases e : rdL l with
    | none => exact (rdV_none e).symm
    | some m => have := (rdL_some e).2.1; omega
  rw [if_neg (by simp; omega), if_pos (by rw [bs_size]; omega)]
  have hb := bt_bs l 0 (by omega)
  rw [Int.natCast_zero] at hb
  rw [hb]
  obtain ⟨a, t, rfl⟩ : ∃ a t, l = a :: t := by cases l with
    | nil => simp at c0
    | cons a t => exact ⟨a, t, rfl⟩
  simp only [List.getElem_cons_zero]
  rw [List.length_cons] at c0 c1
  by_cases c2 : (a.toNat : Int) = 45
  · have ha : a = 45 := by
      have := UInt8.ofNat_toNat (x := a)
      rw [show a.toNat = 45 by omega] at this
      exact this.symm
    subst ha
    rw [if_pos c2]
    simp only [assartref30_Read.j1]
    have key := refread_l (45 :: t) true (by simp; omega) (57 - t.length) t.length 1 0 (by simp; omega)
    rw [show t.length + (57 - t.length + 41) = 98 by omega] at key
    simp only [if_true] at key
    rw [md_0, Int.natCast_zero, show ((1 : Nat) : Int) = 1 from rfl] at key
    rw [key]
    have ed : List.drop 1 (45 :: t) = t := rfl
    rw [ed]
    by_cases hd : t.all isD = true
    · rw [if_pos hd]
      exact refread_end (45 :: t) t true rfl (fun h => by cases h) hd (by omega)
    · rw [if_neg hd]
      congr 1
      cases e : rdL (45 :: t) with
      | none => exact (rdV_none e).symm
      | some m => have := (rdL_some e).2.2; simp at this; simp at hd; obtain ⟨x, hx, hx2⟩ := hd; rw [this x hx] at hx2; cases hx2
  · rw [if_neg c2]
    simp only [assartref30_Read.j1]
    have ha : a ≠ 45 := fun e => c2 (by rw [e]; rfl)
    have key := refread_l (a :: t) false (by simp; omega) (56 - t.length) (t.length + 1) 0 0 (by simp)
    rw [show t.length + 1 + (56 - t.length + 41) = 98 by omega] at key
    simp only [Bool.false_eq_true, if_false] at key
    rw [md_0, Int.natCast_zero] at key
    rw [key]
    rw [List.drop_zero]
    by_cases hd : (a :: t).all isD = true
    · rw [if_pos hd]
      exact refread_end (a :: t) (a :: t) false rfl (fun _ t' e => ha (by injection e)) hd (by simp; omega)
    · rw [if_neg hd]
      congr 1
      cases e : rdL (a :: t) with
      | none => exact (rdV_none e).symm
      | some m =>
        have h3 := (rdL_some e).2.2
        rw [if_neg (by simpa using ha)] at h3
        exact absurd h3 hd
end Go.Proofs.YtkachkmmjlboeaaDoor.X

/- The plain laws of the layer shrink: what Without, Holds, a pass, Script and Least compute. Conditions: none. -/
import Derived.Test.YtlockojfinmddaaPShrinkScriptsx2
namespace Go.Proofs.Ytlockojfinmddaa.X
open Go.RowKit Go.Proofs.Ytlockojfinmddaa.PShrinkScripts Go.Proofs.YtlockojfinmddaaW.PrintWords Go.Proofs.YtlockojfinmddaaW.PrintLast Go.Proofs.YtlockojfinmddaaW.PrintMore
set_option linter.unusedVariables false
set_option linter.unusedSimpArgs false

theorem w64 {a : Int} (h0 : -9223372036854775808 ≤ a) (h1 : a ≤ 9223372036854775807) : wrap64 a = a := by unfold wrap64; omega

/-! ### Without -/
def wout (l : List S39) (fr many : Int) : List S39 := if fr < 0 ∨ many < 1 then l else l.take fr.toNat ++ l.drop (fr + many).toNat
def wk (fr many : Int) : Int → List S39 → List S39
  | _, [] => []
  | i, x :: xs => if fr < 0 ∨ many < 1 ∨ i < fr ∨ many ≤ i - fr then x :: wk fr many (i + 1) xs else wk fr many (i + 1) xs
theorem wk_all (fr many : Int) (h : fr < 0 ∨ many < 1) : ∀ (xs : List S39) (i : Int), wk fr many i xs = xs
  | [], _ => rfl
  | x :: xs, i => by
    unfold wk
    rw [if_pos (by rcases h with h | h <;> simp [h]), wk_all fr many h xs]
theorem wk_cut (fr many : Int) (h0 : 0 ≤ fr) (h1 : 1 ≤ many) : ∀ (xs : List S39) (i : Int), 0 ≤ i → wk fr many i xs = xs.take (fr - i).toNat ++ xs.drop (fr + many - i).toNat
  | [], _, _ => by simp [wk]
  | x :: xs, i, hi => by
    unfold wk
    rw [wk_cut fr many h0 h1 xs (i + 1) (by omega)]
    by_cases a : i < fr
    · rw [if_pos (by simp [a]), show (fr - i).toNat = (fr - (i + 1)).toNat + 1 by omega, show (fr + many - i).toNat = (fr + many - (i + 1)).toNat + 1 by omega]
      rfl
    · by_cases b : many ≤ i - fr
      · rw [if_pos (by simp [b]), show (fr - i).toNat = 0 by omega, show (fr - (i + 1)).toNat = 0 by omega, show (fr + many - i).toNat = 0 by omega, show (fr + many - (i + 1)).toNat = 0 by omega]
        rfl
      · rw [if_neg (by omega), show (fr - i).toNat = 0 by omega, show (fr - (i + 1)).toNat = 0 by omega, show (fr + many - i).toNat = (fr + many - (i + 1)).toNat + 1 by omega]
        rfl
theorem wk_wout (l : List S39) (fr many : Int) : wk fr many 0 l = wout l fr many := by
  unfold wout
  by_cases h : fr < 0 ∨ many < 1
  · rw [if_pos h, wk_all fr many h]
  · rw [if_neg h, wk_cut fr many (by omega) (by omega) l 0 (by omega)]
    simp
theorem rd39 (l : List S39) (p : Nat) (h : p < l.length) : rd_T39 l (p : Int) = l[p] := by simp [rd_T39, List.getD, h]
theorem without_l (l : List S39) (fr many : Int) (hl : l.length ≤ 1000000) : ∀ (d p k : Nat) (acc : List S39), p + d = l.length → acc.length ≤ p → d < k → assartref37_Without.l0 k l fr many acc (p : Int) = some (acc ++ wk fr many (p : Int) (l.drop p)) := by
  intro d
  induction d with
  | zero =>
    intro p k acc hp ha hk
    obtain ⟨k, rfl⟩ : ∃ m, k = m + 1 := ⟨k - 1, by omega⟩
    simp only [assartref37_Without.l0]
    rw [if_neg (by omega), List.drop_eq_nil_of_le (by omega)]
    simp [wk]
  | succ d ih =>
    intro p k acc hp ha hk
    obtain ⟨k, rfl⟩ : ∃ m, k = m + 1 := ⟨k - 1, by omega⟩
    have hlt : p < l.length := by omega
    have e : l.drop p = l[p] :: l.drop (p + 1) := List.drop_eq_getElem_cons hlt
    have r : (⟨(rd_T39 l (p : Int)).f0, (rd_T39 l (p : Int)).f1, (rd_T39 l (p : Int)).f2, (⟨(rd_T39 l (p : Int)).f3.f0, (rd_T39 l (p : Int)).f3.f1, (rd_T39 l (p : Int)).f3.f2, (rd_T39 l (p : Int)).f3.f3, (rd_T39 l (p : Int)).f3.f4⟩ : S37)⟩ : S39) = l[p] := rd39 l p hlt
    have nx : wrap64 ((p : Int) + 1) = ((p + 1 : Nat) : Int) := by rw [w64 (by omega) (by omega)]; omega
    have keep := ih (p + 1) k (acc ++ [l[p]]) (by omega) (by simp; omega) (by omega)
    have drp := ih (p + 1) k acc (by omega) (by omega) (by omega)
    rw [List.append_assoc] at keep
    rw [show ((p + 1 : Nat) : Int) = (p : Int) + 1 by omega] at keep drp nx
    simp only [assartref37_Without.l0]
    rw [if_pos (show (p : Int) < (l.length : Int) by omega), r, nx, e]
    unfold wk
    by_cases c1 : fr < 0
    · rw [if_pos c1, if_pos (by omega), if_pos (by omega), if_pos (.inl c1)]; exact keep
    · rw [if_neg c1]
      by_cases c2 : many < 1
      · rw [if_pos c2, if_pos (by omega), if_pos (by omega), if_pos (.inr (.inl c2))]; exact keep
      · rw [if_neg c2]
        by_cases c3 : (p : Int) < fr
        · rw [if_pos c3, if_pos (by omega), if_pos (by omega), if_pos (.inr (.inr (.inl c3)))]; exact keep
        · rw [if_neg c3, w64 (a := (p : Int) - fr) (by omega) (by omega)]
          by_cases c4 : many ≤ (p : Int) - fr
          · rw [if_pos c4, if_pos (by omega), if_pos (by omega), if_pos (.inr (.inr (.inr c4)))]; exact keep
          · rw [if_neg c4, if_neg (by omega)]; exact drp
theorem without_f (l : List S39) (fr many : Int) (hl : l.length ≤ 1000000) : assartref37_Without.f (l.length + 1) l fr many = some (wout l fr many) := by
  unfold assartref37_Without.f
  have h := without_l l fr many hl l.length 0 (l.length + 1) [] (by omega) (by simp) (by omega)
  rw [← wk_wout]
  simpa using h
theorem wout_len (l : List S39) (fr many : Int) : (wout l fr many).length ≤ l.length := by
  unfold wout; split
  · exact Nat.le_refl _
  · simp; omega
theorem wout_less (l : List S39) (fr many : Int) (h0 : 0 ≤ fr) (h1 : fr < l.length) (h2 : 1 ≤ many) : (wout l fr many).length < l.length := by
  unfold wout; rw [if_neg (by omega)]; simp; omega
theorem wout_sub (l : List S39) (fr many : Int) : List.Sublist (wout l fr many) l := by
  unfold wout; split
  · exact List.Sublist.refl _
  · rename_i h
    have h1 : List.Sublist (l.drop (fr + many).toNat) (l.drop fr.toNat) := by
      rw [show (fr + many).toNat = fr.toNat + ((fr + many).toNat - fr.toNat) by omega, ← List.drop_drop]
      exact List.drop_sublist _ _
    have h2 := (List.Sublist.refl (l.take fr.toNat)).append h1
    rwa [List.take_append_drop] at h2

/-! ### Holds -/
def cnt (l : List S39) (x : Int) : Nat := (l.filter (fun e => e.f1 == x)).length
def holdB (ws : List Int) (each most : Int) (l : List S39) : Bool := !(decide (most > 0) && decide ((l.length : Int) > most)) && ws.all (fun x => !decide ((cnt l x : Int) < each))
theorem cnt_le (l : List S39) (x : Int) : cnt l x ≤ l.length := List.length_filter_le _ _
theorem cnt_drop (l : List S39) (x : Int) (p : Nat) (h : p < l.length) : cnt (l.drop p) x = (if (rd_T39 l (p : Int)).f1 = x then 1 else 0) + cnt (l.drop (p + 1)) x := by
  rw [List.drop_eq_getElem_cons h, rd39 l p h]
  unfold cnt
  rw [List.filter_cons]
  by_cases e : l[p].f1 = x
  · rw [if_pos e, if_pos (by simp [e])]; simp; omega
  · rw [if_neg e, if_neg (by simp [e])]; simp
theorem holds_l1 (ws : List Int) (each most : Int) (l : List S39) (hl : l.length ≤ 1000000) (hw : ws.length ≤ 1000000) (q : Nat) (hq : q < ws.length) : ∀ (d p n k : Nat), p + d = l.length → n ≤ p →
    assartref37_Holds.l1 (k + d + 1) l (q : Int) (n : Int) (p : Int) ws each most = if ((n + cnt (l.drop p) (rd ws (q : Int)) : Nat) : Int) < each then some false else assartref37_Holds.l0 k l ((q : Int) + 1) ws each most := by
  intro d
  induction d with
  | zero =>
    intro p n k hp hn
    simp only [assartref37_Holds.l1]
    rw [if_neg (by omega), List.drop_eq_nil_of_le (by omega), w64 (a := (q : Int) + 1) (by omega) (by omega)]
    simp only [cnt, List.filter_nil, List.length_nil, Nat.add_zero]
    rfl
  | succ d ih =>
    intro p n k hp hn
    have hlt : p < l.length := by omega
    rw [show k + (d + 1) + 1 = (k + d + 1) + 1 by omega]
    rw [assartref37_Holds.l1]
    rw [if_pos (by omega), if_pos (by omega), if_pos (by omega), if_pos (by omega), cnt_drop l _ p hlt, w64 (a := (p : Int) + 1) (by omega) (by omega)]
    have n1 : (p : Int) + 1 = ((p + 1 : Nat) : Int) := by omega
    by_cases c : (rd_T39 l (p : Int)).f1 = rd ws (q : Int)
    · rw [if_pos c, if_pos c, w64 (a := (n : Int) + 1) (by omega) (by omega), n1, show (n : Int) + 1 = ((n + 1 : Nat) : Int) by omega, ih (p + 1) (n + 1) k (by omega) (by omega), Nat.add_assoc]
    · rw [if_neg c, if_neg c, n1, ih (p + 1) n k (by omega) (by omega), Nat.zero_add]
theorem holds_l0 (ws : List Int) (each most : Int) (l : List S39) (hl : l.length ≤ 1000000) (hw : ws.length ≤ 1000000) : ∀ (d q k : Nat), q + d = ws.length → assartref37_Holds.l0 (k + d * (l.length + 2) + 1) l (q : Int) ws each most = some ((ws.drop q).all (fun x => !decide ((cnt l x : Int) < each))) := by
  intro d
  induction d with
  | zero =>
    intro q k hq
    simp only [assartref37_Holds.l0]
    rw [if_neg (by omega), List.drop_eq_nil_of_le (by omega)]
    rfl
  | succ d ih =>
    intro q k hq
    have hlt : q < ws.length := by omega
    rw [show k + (d + 1) * (l.length + 2) + 1 = ((k + d * (l.length + 2) + 1) + l.length + 1) + 1 by rw [Nat.add_mul]; omega]
    rw [assartref37_Holds.l0]
    have h := holds_l1 ws each most l hl hw q hlt l.length 0 0 (k + d * (l.length + 2) + 1) (by omega) (by omega)
    rw [if_pos (by omega)]
    simp only [Int.natCast_zero] at h
    rw [h, List.drop_eq_getElem_cons hlt, List.all_cons]
    have r : rd ws (q : Int) = ws[q] := by simp [rd, List.getD, hlt]
    rw [r]
    simp only [List.drop_zero, Nat.zero_add]
    by_cases c : ((cnt l ws[q] : Nat) : Int) < each
    · rw [if_pos c]; simp [c]
    · rw [if_neg c, show (q : Int) + 1 = ((q + 1 : Nat) : Int) by omega, ih (q + 1) k (by omega)]; simp [c]
theorem holds_f (ws : List Int) (each most : Int) (l : List S39) (hl : l.length ≤ 1000000) (hw : ws.length ≤ 1000000) : assartref37_Holds.f (ws.length * (l.length + 2) + 2) ws each most l = some (holdB ws each most l) := by
  have h := holds_l0 ws each most l hl hw ws.length 0 0 (by omega)
  simp only [Int.natCast_zero, List.drop_zero, Nat.zero_add] at h
  unfold assartref37_Holds.f holdB
  by_cases c : most > 0
  · rw [if_pos c]
    simp only [assartref37_Holds.j0]
    by_cases c2 : (l.length : Int) > most
    · rw [if_pos (by simp [c2])]; simp [c, c2]
    · rw [if_neg (by simp [c2]), h]; simp [c2]
  · rw [if_neg c]
    simp only [assartref37_Holds.j0]
    rw [if_neg (by simp), h]; simp [c]

/-! ### a pass, Script, Least -/
def passF (h : List S39 → Bool) (many : Int) : Nat → List S39 → Int → Bool → List S39 × Bool
  | 0, l, _, less => (l, less)
  | k + 1, l, at_, less => if at_ < (l.length : Int) then (if h (wout l at_ many) = true then passF h many k (wout l at_ many) at_ true else passF h many k l (at_ + many) less) else (l, less)
def halfN (n : Int) : Int := n - n / 2
def halveF (h : List S39 → Bool) : Nat → Int → List S39 → List S39
  | 0, _, l => l
  | k + 1, many, l => if 1 < many then halveF h k (halfN many) (passF h many l.length l 0 false).1 else l
def lastF (h : List S39 → Bool) : Nat → List S39 → List S39
  | 0, l => l
  | k + 1, l => if (passF h 1 l.length l 0 false).2 = true then lastF h k (passF h 1 l.length l 0 false).1 else (passF h 1 l.length l 0 false).1
def script (h : List S39 → Bool) (l : List S39) : List S39 := if h l = false ∨ l = [] then l else lastF h (l.length + 1) (halveF h l.length (halfN l.length) l)
def leastB (h : List S39 → Bool) (l : List S39) : Bool := h l && (List.range l.length).all (fun i => !h (wout l (i : Int) 1))
theorem pass_len (h : List S39 → Bool) (many : Int) : ∀ (k : Nat) (l : List S39) (a : Int) (b : Bool), (passF h many k l a b).1.length ≤ l.length
  | 0, _, _, _ => Nat.le_refl _
  | k + 1, l, a, b => by
    unfold passF
    split
    · split
      · exact Nat.le_trans (pass_len h many k _ _ _) (wout_len _ _ _)
      · exact pass_len h many k _ _ _
    · exact Nat.le_refl _
theorem pass_less (h : List S39 → Bool) (many : Int) (hm : 1 ≤ many) : ∀ (k : Nat) (l : List S39) (a : Int) (b : Bool), 0 ≤ a → (passF h many k l a b).2 = true → b = true ∨ (passF h many k l a b).1.length < l.length
  | 0, _, _, _, _, hh => .inl hh
  | k + 1, l, a, b, ha, hh => by
    unfold passF at hh ⊢
    split at hh
    · rename_i c
      rw [if_pos c]
      split at hh
      · rename_i c2
        rw [if_pos c2]
        exact .inr (Nat.lt_of_le_of_lt (pass_len h many k _ _ _) (wout_less l a many ha c hm))
      · rename_i c2
        rw [if_neg c2]
        exact pass_less h many hm k l (a + many) b (by omega) hh
    · exact .inl hh
theorem pass_sub (h : List S39 → Bool) (many : Int) : ∀ (k : Nat) (l : List S39) (a : Int) (b : Bool), List.Sublist (passF h many k l a b).1 l
  | 0, _, _, _ => List.Sublist.refl _
  | k + 1, l, a, b => by
    unfold passF
    split
    · split
      · exact (pass_sub h many k _ _ _).trans (wout_sub _ _ _)
      · exact pass_sub h many k _ _ _
    · exact List.Sublist.refl _
theorem pass_hold (h : List S39 → Bool) (many : Int) : ∀ (k : Nat) (l : List S39) (a : Int) (b : Bool), h l = true → h (passF h many k l a b).1 = true
  | 0, _, _, _, hh => hh
  | k + 1, l, a, b, hh => by
    unfold passF
    split
    · split
      · exact pass_hold h many k _ _ _ (by assumption)
      · exact pass_hold h many k _ _ _ hh
    · exact hh
/-- A pass by one that leaves nothing out: nothing can be left out, from there on. -/
theorem pass_idle (h : List S39 → Bool) : ∀ (k : Nat) (l : List S39) (a : Int) (b : Bool), 0 ≤ a → (l.length : Int) - a ≤ k → (passF h 1 k l a b).2 = false → (passF h 1 k l a b).1 = l ∧ ∀ i : Int, a ≤ i → i < l.length → h (wout l i 1) = false
  | 0, l, a, b, ha, hk, hh => ⟨rfl, fun i h1 h2 => by omega⟩
  | k + 1, l, a, b, ha, hk, hh => by
    unfold passF at hh ⊢
    split at hh
    · rename_i c
      rw [if_pos c]
      split at hh
      · rename_i c2
        exfalso
        have : ∀ (k : Nat) (l : List S39) (a : Int), (passF h 1 k l a true).2 = true := by
          intro k
          induction k with
          | zero => intro l a; rfl
          | succ k ih => intro l a; unfold passF; split <;> (try split) <;> first | exact ih _ _ | rfl
        rw [this] at hh
        cases hh
      · rename_i c2
        rw [if_neg c2]
        obtain ⟨h1, h2⟩ := pass_idle h k l (a + 1) b (by omega) (by omega) hh
        refine ⟨h1, fun i hi1 hi2 => ?_⟩
        by_cases e : i = a
        · rw [e]; exact Bool.eq_false_iff.2 c2
        · exact h2 i (by omega) hi2
    · rename_i c
      rw [if_neg c]
      exact ⟨rfl, fun i h1 h2 => by omega⟩
theorem halve_ok (h : List S39 → Bool) : ∀ (k : Nat) (m : Int) (l : List S39), (halveF h k m l).length ≤ l.length ∧ List.Sublist (halveF h k m l) l ∧ (h l = true → h (halveF h k m l) = true)
  | 0, _, _ => ⟨Nat.le_refl _, List.Sublist.refl _, id⟩
  | k + 1, m, l => by
    unfold halveF
    split
    · obtain ⟨h1, h2, h3⟩ := halve_ok h k (halfN m) (passF h m l.length l 0 false).1
      exact ⟨Nat.le_trans h1 (pass_len _ _ _ _ _ _), h2.trans (pass_sub _ _ _ _ _ _), fun hh => h3 (pass_hold _ _ _ _ _ _ hh)⟩
    · exact ⟨Nat.le_refl _, List.Sublist.refl _, id⟩
theorem last_ok (h : List S39 → Bool) : ∀ (k : Nat) (l : List S39), l.length < k → (lastF h k l).length ≤ l.length ∧ List.Sublist (lastF h k l) l ∧ (h l = true → h (lastF h k l) = true) ∧ ∀ i : Int, 0 ≤ i → i < (lastF h k l).length → h (wout (lastF h k l) i 1) = false
  | 0, _, hk => by omega
  | k + 1, l, hk => by
    unfold lastF
    split
    · rename_i c
      have hlt : (passF h 1 l.length l 0 false).1.length < l.length := by
        rcases pass_less h 1 (by omega) l.length l 0 false (by omega) c with e | e
        · cases e
        · exact e
      obtain ⟨h1, h2, h3, h4⟩ := last_ok h k (passF h 1 l.length l 0 false).1 (by omega)
      exact ⟨by omega, h2.trans (pass_sub _ _ _ _ _ _), fun hh => h3 (pass_hold _ _ _ _ _ _ hh), h4⟩
    · rename_i c
      obtain ⟨h1, h2⟩ := pass_idle h l.length l 0 false (by omega) (by omega) (Bool.eq_false_iff.2 c)
      rw [h1]
      exact ⟨Nat.le_refl _, List.Sublist.refl _, id, h2⟩
theorem script_ok (h : List S39 → Bool) (l : List S39) : (script h l).length ≤ l.length ∧ List.Sublist (script h l) l ∧ (h l = true → h (script h l) = true ∧ leastB h (script h l) = true) := by
  unfold script
  split
  · rename_i c
    refine ⟨Nat.le_refl _, List.Sublist.refl _, fun hh => ⟨hh, ?_⟩⟩
    rcases c with c | c
    · rw [hh] at c; cases c
    · subst c; unfold leastB; rw [hh]; rfl
  · rename_i c
    obtain ⟨h1, h2, h3⟩ := halve_ok h l.length (halfN l.length) l
    obtain ⟨k1, k2, k3, k4⟩ := last_ok h (l.length + 1) (halveF h l.length (halfN l.length) l) (by omega)
    refine ⟨by omega, k2.trans h2, fun hh => ⟨k3 (h3 hh), ?_⟩⟩
    unfold leastB
    rw [k3 (h3 hh), Bool.true_and, List.all_eq_true]
    intro i hi
    have hi2 := List.mem_range.1 hi
    rw [k4 (i : Int) (by omega) (by omega)]
    rfl
theorem script_not (h : List S39 → Bool) (l : List S39) (hh : h l = false) : script h l = l := by unfold script; rw [if_pos (.inl hh)]

/-! ### Same -/
def eqS (a b : S39) : Bool := a.f0 == b.f0 && (a.f1 == b.f1 && (a.f2 == b.f2 && (a.f3.f0 == b.f3.f0 && (a.f3.f1 == b.f3.f1 && (a.f3.f2 == b.f3.f2 && (a.f3.f3 == b.f3.f3 && a.f3.f4 == b.f3.f4))))))
theorem eqS_iff (a b : S39) : eqS a b = true ↔ a = b := by
  obtain ⟨a0, a1, a2, a3, a4, a5, a6, a7⟩ := a
  obtain ⟨b0, b1, b2, b3, b4, b5, b6, b7⟩ := b
  simp [eqS]
theorem same_l (l : List S39) (hl : l.length ≤ 1000000) : ∀ (d p k : Nat), p + d = l.length → d < k → assartlaw31_Script_Same.l0 k l l (p : Int) = some true := by
  intro d
  induction d with
  | zero =>
    intro p k hp hk
    obtain ⟨k, rfl⟩ : ∃ m, k = m + 1 := ⟨k - 1, by omega⟩
    simp only [assartlaw31_Script_Same.l0]
    rw [if_neg (by omega)]
  | succ d ih =>
    intro p k hp hk
    obtain ⟨k, rfl⟩ : ∃ m, k = m + 1 := ⟨k - 1, by omega⟩
    simp only [assartlaw31_Script_Same.l0]
    rw [if_pos (by omega), if_pos (by omega), if_pos (by omega), if_neg (by simp), w64 (a := (p : Int) + 1) (by omega) (by omega)]
    exact ih (p + 1) k (by omega) (by omega)
theorem same_f (l : List S39) (hl : l.length ≤ 1000000) : assartlaw31_Script_Same.f (l.length + 1) l l = some true := by
  unfold assartlaw31_Script_Same.f
  rw [if_pos rfl]
  exact same_l l hl l.length 0 _ (by omega) (by omega)

/-! ### which entries of l are found again, one behind the other -/
def greedy : List S39 → List S39 → Nat
  | _, [] => 0
  | [], _ :: _ => 0
  | y :: ys, x :: xs => if eqS y x = true then greedy ys xs + 1 else greedy ys (x :: xs)
theorem greedy_sub : ∀ (l m : List S39), List.Sublist m l → greedy l m = m.length
  | l, [], _ => by cases l <;> rfl
  | [], x :: xs, h => by cases h
  | y :: ys, x :: xs, h => by
    unfold greedy
    by_cases e : eqS y x = true
    · rw [if_pos e]
      have e2 := (eqS_iff y x).1 e
      subst e2
      rw [greedy_sub ys xs (List.cons_sublist_cons.1 h)]
      rfl
    · rw [if_neg e]
      cases h with
      | cons _ h => exact greedy_sub ys (x :: xs) h
      | cons_cons _ h => exact absurd ((eqS_iff _ _).2 rfl) e
theorem greedy_nil (l : List S39) : greedy l [] = 0 := by cases l <;> rfl

end Go.Proofs.Ytlockojfinmddaa.X

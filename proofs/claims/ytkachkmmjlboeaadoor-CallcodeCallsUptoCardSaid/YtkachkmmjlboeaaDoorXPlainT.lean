/- Plain: calls as texts, there and back. Conditions: none. -/
import Derived.Test.YtkachkmmjlboeaaDoorXParse
namespace Go.Proofs.YtkachkmmjlboeaaDoor.X
set_option linter.unusedVariables false
set_option linter.unusedSimpArgs false
theorem jn_flds : ∀ s : List UInt8, jns 32 (flds s) = s
  | [] => rfl
  | c :: r => by
    have ih := jn_flds r
    obtain ⟨f, fs, hf⟩ := flds_cons r
    rw [hf] at ih
    by_cases hc : c = 32
    · subst hc
      rw [show flds (32 :: r) = [] :: flds r by conv => lhs; unfold flds
                                                rw [if_pos rfl], hf]
      show [] ++ 32 :: jns 32 (f :: fs) = _
      rw [ih]; rfl
    · have e : flds (c :: r) = (c :: f) :: fs := by
        conv => lhs; unfold flds
        rw [if_neg hc, hf]
      rw [e]
      cases fs with
      | nil => show c :: f = _; rw [← ih]; rfl
      | cons g gs =>
        show (c :: f) ++ 32 :: jns 32 (g :: gs) = _
        rw [← ih]; rfl
theorem flds_one : ∀ w : List UInt8, (∀ c ∈ w, c ≠ 32) → flds w = [w]
  | [], _ => rfl
  | c :: w, h => by
    conv => lhs; unfold flds
    rw [if_neg (h c (List.mem_cons_self ..)), flds_one w (fun d hd => h d (List.mem_cons_of_mem _ hd))]
theorem flds_app (r : List UInt8) : ∀ w : List UInt8, (∀ c ∈ w, c ≠ 32) → flds (w ++ 32 :: r) = w :: flds r
  | [], _ => by
    show flds (32 :: r) = _
    conv => lhs; unfold flds
    rw [if_pos rfl]
  | c :: w, h => by
    show flds (c :: (w ++ 32 :: r)) = _
    conv => lhs; unfold flds
    rw [if_neg (h c (List.mem_cons_self ..)), flds_app r w (fun d hd => h d (List.mem_cons_of_mem _ hd))]
theorem flds_jn : ∀ ws : List (List UInt8), ws ≠ [] → (∀ w ∈ ws, ∀ c ∈ w, c ≠ 32) → flds (jns 32 ws) = ws
  | [], h, _ => absurd rfl h
  | [w], _, h => flds_one w (h w (by simp))
  | w :: v :: r, _, h => by
    show flds (w ++ 32 :: jns 32 (v :: r)) = _
    rw [flds_app _ w (h w (by simp)), flds_jn (v :: r) (by simp) (fun x hx => h x (List.mem_cons_of_mem _ hx))]
theorem num_no (n : Int) : ∀ c ∈ numL n, c ≠ 32 := by
  intro c hc e
  subst e
  rcases numL_chars n 32 hc with h | h
  · exact absurd h (by decide)
  · exact absurd h (by decide)
theorem wd_no : ∀ k, k < 12 → ∀ c ∈ wd k, c ≠ 32 := by decide +kernel
theorem wd_inj : ∀ j, j < 12 → ∀ k, k < 12 → wd j = wd k → j = k := by decide +kernel
theorem pt_nodup : ∀ k, k < 12 → (pt k).Nodup := by decide +kernel
theorem rdV_num' (n : Int) (h : In64 n) : rdV (numL n) = (n, true) := by unfold rdV; rw [rdL_num n h]
theorem rdV_ok {l : List UInt8} (h : (rdV l).2 = true) : numL (rdV l).1 = l ∧ In64 (rdV l).1 := by
  unfold rdV at h ⊢
  cases e : rdL l with
  | none => rw [e] at h; cases h
  | some n => exact num_rdL l n e
def setA (c : List Int) (ps : List Nat) (q : List Int) : List Int := ps.foldl (fun q p => q.set (p + 1) (c.getD (p + 1) 0)) q
theorem rdF_of (c : List Int) (hc : ∀ x ∈ c, In64 x) : ∀ (ps : List Nat) (q : List Int), rdF ps (wordsC c ps) q = (setA c ps q, true)
  | [], q => rfl
  | p :: ps, q => by
    show rdF (p :: ps) (numL (c.getD (p + 1) 0) :: wordsC c ps) q = _
    unfold rdF
    rw [rdV_num' _ (getD_in c hc _), if_pos rfl, rdF_of c hc ps]
    rfl
theorem of_rdF (x : List Int) : ∀ (ps : List Nat) (ws : List (List UInt8)) (q : List Int), rdF ps ws q = (x, true) → ws.length = ps.length → ps.Nodup → (∀ p ∈ ps, p + 1 < q.length) →
    ws = wordsC x ps ∧ setA x ps q = x ∧ (∀ j, (∀ p ∈ ps, p + 1 ≠ j) → x.getD j 0 = q.getD j 0) ∧ (∀ p ∈ ps, In64 (x.getD (p + 1) 0))
  | [], ws, q, h, hl, _, _ => by
    obtain rfl := List.length_eq_zero_iff.1 hl
    have h1 : q = x := congrArg Prod.fst h
    subst h1
    exact ⟨rfl, rfl, fun _ _ => rfl, fun p hp => by cases hp⟩
  | p :: ps, [], q, h, hl, _, _ => by cases hl
  | p :: ps, w :: ws, q, h, hl, hn, hq => by
    unfold rdF at h
    split at h
    · rename_i hok
      obtain ⟨hp, hn2⟩ := List.nodup_cons.1 hn
      obtain ⟨i1, i2, i3, i4⟩ := of_rdF x ps ws (q.set (p + 1) (rdV w).1) h (by simpa using hl) hn2 (fun p hp => by rw [List.length_set]; exact hq p (List.mem_cons_of_mem _ hp))
      obtain ⟨h1, h2⟩ := rdV_ok hok
      have hx : x.getD (p + 1) 0 = (rdV w).1 := by
        rw [i3 (p + 1) (fun j hj e => hp (by have : j = p := by omega
                                             rw [← this]; exact hj))]
        have := hq p (List.mem_cons_self ..)
        simp [List.getD, this]
      refine ⟨?_, ?_, ?_, ?_⟩
      · show w :: ws = numL (x.getD (p + 1) 0) :: wordsC x ps
        rw [hx, h1, ← i1]
      · show setA x ps (q.set (p + 1) (x.getD (p + 1) 0)) = x
        rw [hx]; exact i2
      · intro j hj
        rw [i3 j (fun p hp => hj p (List.mem_cons_of_mem _ hp))]
        have := hj p (List.mem_cons_self ..)
        simp [List.getD, List.getElem?_set_ne this]
      · intro j hj
        rcases List.mem_cons.1 hj with rfl | hj
        · rw [hx]; exact h2
        · exact i4 j hj
    · cases h
theorem setA_in (c : List Int) : ∀ (ps : List Nat) (q : List Int), (∀ p ∈ ps, In64 (c.getD (p + 1) 0)) → (∀ x ∈ q, In64 x) → ∀ x ∈ setA c ps q, In64 x
  | [], q, _, hq => hq
  | p :: ps, q, hc, hq => setA_in c ps _ (fun p hp => hc p (List.mem_cons_of_mem _ hp)) (fun x hx => by
      rcases List.mem_or_eq_of_mem_set hx with h | h
      · exact hq x h
      · rw [h]; exact hc p (List.mem_cons_self ..))
theorem parseL_find (w0 : List UInt8) (rest : List (List UInt8)) (k : Nat) (hw : wd k = w0) (hr : (readF ((k : Int) + 1) (pt k) rest).2 = true) : ∀ ks : List Nat, k ∈ ks → (∀ j ∈ ks, wd j = wd k → j = k) → parseL w0 rest ks = ((readF ((k : Int) + 1) (pt k) rest).1, 0)
  | [], h, _ => by cases h
  | j :: ks, h, hi => by
    unfold parseL
    by_cases hj : wd j = w0
    · obtain rfl : j = k := hi j (List.mem_cons_self ..) (hj.trans hw.symm)
      rw [if_pos ⟨hj, hr⟩]
    · rw [if_neg (fun e => hj e.1)]
      refine parseL_find w0 rest k hw hr ks ?_ (fun i hi' => hi i (List.mem_cons_of_mem _ hi'))
      rcases List.mem_cons.1 h with rfl | h
      · exact absurd hw hj
      · exact h
theorem parseL_found (w0 : List UInt8) (rest : List (List UInt8)) : ∀ ks : List Nat, (parseL w0 rest ks = (zero5, 4)) ∨ ∃ k ∈ ks, wd k = w0 ∧ (readF ((k : Int) + 1) (pt k) rest).2 = true ∧ parseL w0 rest ks = ((readF ((k : Int) + 1) (pt k) rest).1, 0)
  | [] => .inl rfl
  | j :: ks => by
    unfold parseL
    by_cases h : wd j = w0 ∧ (readF ((j : Int) + 1) (pt j) rest).2 = true
    · rw [if_pos h]
      exact .inr ⟨j, List.mem_cons_self .., h.1, h.2, rfl⟩
    · rw [if_neg h]
      rcases parseL_found w0 rest ks with h | ⟨k, hk, h⟩
      · exact .inl h
      · exact .inr ⟨k, List.mem_cons_of_mem _ hk, h⟩
theorem call_back (c : List Int) (hc : ∀ x ∈ c, In64 x) : callT c = ([], 2) ∨ ((callT c).2 = 0 ∧ (callT c).1.length ≤ 63 ∧ parseT (callT c).1 = (c, 0)) := by
  by_cases h : c.getD 0 0 < 1 ∨ 12 < c.getD 0 0
  · exact .inl (if_pos h)
  · obtain ⟨k, hk⟩ : ∃ k : Nat, c.getD 0 0 - 1 = (k : Int) := ⟨(c.getD 0 0 - 1).toNat, by omega⟩
    have hk12 : k < 12 := by omega
    by_cases hp : plainC c (pt k) = c
    · right
      rw [callT_eq c k hk (by omega) (by omega) hp]
      refine ⟨rfl, words_len c k hc, ?_⟩
      have e : flds (jn (wd k :: wordsC c (pt k))) = wd k :: wordsC c (pt k) := flds_jn _ (by simp) (fun w hw => by
        rcases List.mem_cons.1 hw with rfl | hw
        · exact wd_no k hk12
        · obtain ⟨p, _, rfl⟩ := List.mem_map.1 hw
          exact num_no _)
      have hr : readF ((k : Int) + 1) (pt k) (wordsC c (pt k)) = (c, true) := by
        unfold readF
        rw [if_pos (by simp [wordsC]), rdF_of c hc]
        have : plainC c (pt k) = setA c (pt k) [c.getD 0 0, 0, 0, 0, 0] := rfl
        rw [this, show c.getD 0 0 = (k : Int) + 1 by omega] at hp
        rw [hp]
      unfold parseT
      rw [e]
      show parseL (wd k) (wordsC c (pt k)) (List.range 12) = _
      rw [parseL_find (wd k) _ k rfl (by rw [hr]) _ (List.mem_range.2 hk12) (fun j hj => wd_inj j (List.mem_range.1 hj) k hk12), hr]
    · exact .inl (callT_ne c k hk (by omega) (by omega) hp)
theorem parse_back (s : List UInt8) : parseT s = (zero5, 4) ∨ ∃ x : List Int, parseT s = (x, 0) ∧ x.length = 5 ∧ (∀ e ∈ x, In64 e) ∧ callT x = (s, 0) := by
  obtain ⟨w0, rest, hf⟩ := flds_cons s
  have hp : parseT s = parseL w0 rest (List.range 12) := by unfold parseT; rw [hf]
  rw [hp]
  rcases parseL_found w0 rest (List.range 12) with h | ⟨k, hk, hw, hr, h⟩
  · exact .inl h
  · right
    have hk12 := List.mem_range.1 hk
    obtain ⟨x, hx⟩ : ∃ x, (readF ((k : Int) + 1) (pt k) rest).1 = x := ⟨_, rfl⟩
    rw [h, hx]
    have h5 : x.length = 5 := by rw [← hx]; exact readF_len _ _ _
    unfold readF at hx hr
    split at hx
    · rename_i hl
      rw [if_pos hl] at hr
      have hrd : rdF (pt k) rest [(k : Int) + 1, 0, 0, 0, 0] = (x, true) := Prod.ext hx hr
      obtain ⟨i1, i2, i3, i4⟩ := of_rdF x (pt k) rest _ hrd hl (pt_nodup k hk12) (fun p hp => by have := pt_lt k p hp; simp only [List.length_cons, List.length_nil]; omega)
      have hx0 : x.getD 0 0 = (k : Int) + 1 := i3 0 (fun p _ => by omega)
      refine ⟨x, rfl, h5, ?_, ?_⟩
      · rw [← i2]
        exact setA_in x (pt k) _ i4 (fun y hy => by
          simp only [List.mem_cons, List.not_mem_nil, or_false] at hy
          unfold In64
          rcases hy with h | h | h | h | h <;> omega)
      · rw [callT_eq x k (by omega) (by omega) (by omega) (by show setA x (pt k) [x.getD 0 0, 0, 0, 0, 0] = x; rw [hx0]; exact i2), ← i1, hw]
        show (jns 32 (w0 :: rest), _) = _
        rw [← hf, jn_flds]
    · rename_i hl
      rw [if_neg hl] at hr
      cases hr
end Go.Proofs.YtkachkmmjlboeaaDoor.X

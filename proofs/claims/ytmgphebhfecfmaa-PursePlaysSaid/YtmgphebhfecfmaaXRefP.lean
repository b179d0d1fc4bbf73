/- The reference's purse: what its functions tell, in plain lists; and Pop, walked by hand. Conditions: none. -/
import Derived.Test.YtmgphebhfecfmaaXAfter
import Derived.Deep.RegionHeld3
namespace Go.Proofs.Ytmgphebhfecfmaa.X
open Go.RowKit Go.Proofs.Ytmgphebhfecfmaa.PPursePlays Go.Proofs.YtmgphebhfecfmaaW.PrintWords Go.Proofs.YtmgphebhfecfmaaW.PrintLast Go.Proofs.YtmgphebhfecfmaaW.PrintMore
set_option linter.unusedVariables false
set_option linter.unusedSimpArgs false

def rlist (L : List S55) (c : Int) : List Int := (L.filter (fun x => x.f0 == c)).map S55.f1
def rhas (L : List S55) (a : Int) : Bool := L.any (fun x => x.f1 == a)
def rall (L : List S55) : List Int := rlist L 0 ++ rlist L 1 ++ rlist L 2 ++ rlist L 3 ++ rlist L 4
def cls (c : Int) : Bool := decide (0 ≤ c ∧ c < 5)
theorem rlist_len (L : List S55) (c : Int) : (rlist L c).length ≤ L.length := by
  unfold rlist; rw [List.length_map]; exact List.length_filter_le _ _
theorem rlist_append (L M : List S55) (c : Int) : rlist (L ++ M) c = rlist L c ++ rlist M c := by simp [rlist]
theorem rlist_one (x : S55) (c : Int) : rlist [x] c = if x.f0 = c then [x.f1] else [] := by
  unfold rlist
  by_cases h : x.f0 = c
  · simp [h]
  · simp [h]
theorem rd55 (L : List S55) (p : Nat) (h : p < L.length) : rd_T55 L (p : Int) = L[p] := by simp [rd_T55, List.getD, h]
theorem class_f (c : Int) : assartref13_class.f c = some (cls c) := by
  unfold assartref13_class.f cls
  by_cases h : c ≥ 0
  · rw [if_pos h]
    congr 1
    exact decide_eq_decide.2 ⟨fun h2 => ⟨h, h2⟩, fun h2 => h2.2⟩
  · rw [if_neg h, decide_eq_false (fun hh => h hh.1)]
theorem list_loop (L : List S55) (c : Int) (hl : L.length ≤ 1000000) (d : Nat) : ∀ (p k : Nat) (acc : List Int), p + d = L.length → d < k → acc.length ≤ p → assartref13_Purse_List.l0 k c acc (p : Int) L = some (acc ++ rlist (L.drop p) c) := by
  induction d with
  | zero =>
    intro p k acc hp hk ha
    obtain ⟨k, rfl⟩ : ∃ m, k = m + 1 := ⟨k - 1, by omega⟩
    simp only [assartref13_Purse_List.l0]
    rw [if_neg (by omega), List.drop_eq_nil_of_le (by omega)]
    simp [rlist]
  | succ d ih =>
    intro p k acc hp hk ha
    obtain ⟨k, rfl⟩ : ∃ m, k = m + 1 := ⟨k - 1, by omega⟩
    have hlt : p < L.length := by omega
    have ed : L.drop p = [L[p]] ++ L.drop (p + 1) := List.drop_eq_getElem_cons hlt
    simp only [assartref13_Purse_List.l0]
    rw [if_pos (by omega), if_pos (by omega), rd55 L p hlt, w64 (a := (p : Int) + 1) (by omega) (by omega), ed, rlist_append, rlist_one]
    by_cases h : L[p].f0 = c
    · rw [if_pos h, if_pos h, if_pos (by omega)]
      rw [show ((p : Int) + 1) = ((p + 1 : Nat) : Int) by omega, ih (p + 1) k (acc ++ [L[p].f1]) (by omega) (by omega) (by simp; omega)]
      simp
    · rw [if_neg h, if_neg h, show ((p : Int) + 1) = ((p + 1 : Nat) : Int) by omega, ih (p + 1) k acc (by omega) (by omega) (by omega)]
      simp
theorem list_f (L : List S55) (c : Int) (hl : L.length ≤ 1000000) (k : Nat) (hk : L.length < k) : assartref13_Purse_List.f k L c = some (rlist L c) := by
  unfold assartref13_Purse_List.f
  have := list_loop L c hl L.length 0 k [] (by omega) hk (by simp)
  simpa using this
theorem all_f (L : List S55) (hl : L.length ≤ 1000000) : assartref13_Purse_All.f (L.length + 10) L = some (rall L) := by
  unfold assartref13_Purse_All.f
  have h0 := rlist_len L 0
  have h1 := rlist_len L 1
  have h2 := rlist_len L 2
  have h3 := rlist_len L 3
  have h4 := rlist_len L 4
  have e1 : wrap64 ((0 : Int) + 1) = 1 := by decide +kernel
  have e2 : wrap64 ((1 : Int) + 1) = 2 := by decide +kernel
  have e3 : wrap64 ((2 : Int) + 1) = 3 := by decide +kernel
  have e4 : wrap64 ((3 : Int) + 1) = 4 := by decide +kernel
  have e5 : wrap64 ((4 : Int) + 1) = 5 := by decide +kernel
  rw [show L.length + 10 = (L.length + 4) + 1 + 1 + 1 + 1 + 1 + 1 by omega]
  simp only [assartref13_Purse_All.l0]
  rw [if_pos (by omega), list_f L 0 hl _ (by omega), Option.bind_some, if_pos (by simp; omega), e1]
  rw [if_pos (by omega), list_f L 1 hl _ (by omega), Option.bind_some, if_pos (by simp; omega), e2]
  rw [if_pos (by omega), list_f L 2 hl _ (by omega), Option.bind_some, if_pos (by simp; omega), e3]
  rw [if_pos (by omega), list_f L 3 hl _ (by omega), Option.bind_some, if_pos (by simp; omega), e4]
  rw [if_pos (by omega), list_f L 4 hl _ (by omega), Option.bind_some, if_pos (by simp; omega), e5]
  rw [if_neg (by omega)]
  simp [rall]
theorem has_loop (L : List S55) (a : Int) (hl : L.length ≤ 1000000) (d : Nat) : ∀ (p k : Nat), p + d = L.length → d < k → assartref13_Purse_Has.l0 k a (p : Int) L = some (rhas (L.drop p) a) := by
  induction d with
  | zero =>
    intro p k hp hk
    obtain ⟨k, rfl⟩ : ∃ m, k = m + 1 := ⟨k - 1, by omega⟩
    simp only [assartref13_Purse_Has.l0]
    rw [if_neg (by omega), List.drop_eq_nil_of_le (by omega)]
    rfl
  | succ d ih =>
    intro p k hp hk
    obtain ⟨k, rfl⟩ : ∃ m, k = m + 1 := ⟨k - 1, by omega⟩
    have hlt : p < L.length := by omega
    have ed : L.drop p = L[p] :: L.drop (p + 1) := List.drop_eq_getElem_cons hlt
    simp only [assartref13_Purse_Has.l0]
    rw [if_pos (by omega), if_pos (by omega), rd55 L p hlt, w64 (a := (p : Int) + 1) (by omega) (by omega), ed]
    unfold rhas
    rw [List.any_cons]
    by_cases h : L[p].f1 = a
    · rw [if_pos h, beq_iff_eq.2 h]; rfl
    · rw [if_neg h, beq_eq_false_iff_ne.2 h, Bool.false_or, show ((p : Int) + 1) = ((p + 1 : Nat) : Int) by omega]
      exact ih (p + 1) k (by omega) (by omega)
theorem has_f (L : List S55) (a : Int) (hl : L.length ≤ 1000000) : assartref13_Purse_Has.f (L.length + 1) L a = some (rhas L a) := by
  unfold assartref13_Purse_Has.f
  have := has_loop L a hl L.length 0 (L.length + 1) (by omega) (by omega)
  simpa using this
def rpushOk (L : List S55) (c limit : Int) : Bool := cls c && decide (((rlist L c).length : Int) < limit)
def rpushL (L : List S55) (c a limit : Int) : List S55 := if rpushOk L c limit = true then L ++ [⟨c, a⟩] else L
theorem push_f (L : List S55) (c a limit : Int) (hl : L.length ≤ 1000) : assartref13_Purse_Push.f (L.length + 10) L c a limit = some (rpushL L c a limit, rpushOk L c limit) := by
  unfold assartref13_Purse_Push.f rpushL rpushOk
  rw [class_f, Option.bind_some]
  by_cases hc : cls c = true
  · rw [if_pos hc, list_f L c (by omega) _ (by omega), Option.bind_some, hc]
    by_cases h : ((rlist L c).length : Int) ≥ limit
    · rw [if_pos h, decide_eq_false (by omega)]
      rfl
    · rw [if_neg h, decide_eq_true (by omega), Option.bind_some, if_pos (by simp; omega), Option.bind_some, if_pos (by simp; omega)]
      simp
  · rw [if_neg hc, Bool.eq_false_iff.2 hc]
    rfl
/-- The last place of a class, below k. -/
def lastI (L : List S55) (c : Int) : Nat → Option Nat
  | 0 => none
  | k + 1 => if (L.getD k z55).f0 = c then some k else lastI L c k
def rpopL (L : List S55) (c : Int) : List S55 := match lastI L c L.length with
  | none => L
  | some i => L.take i ++ L.drop (i + 1)
def rpopV (L : List S55) (c : Int) : Int := match lastI L c L.length with
  | none => 0
  | some i => (L.getD i z55).f1
def rpopOk (L : List S55) (c : Int) : Bool := (lastI L c L.length).isSome
theorem last_none (L : List S55) (c : Int) : ∀ k, k ≤ L.length → lastI L c k = none → rlist (L.take k) c = [] := by
  intro k
  induction k with
  | zero => intro _ _; simp [rlist]
  | succ k ih =>
    intro hk h
    unfold lastI at h
    have hlt : k < L.length := by omega
    rw [List.take_succ_eq_append_getElem hlt, rlist_append, rlist_one]
    have e : L.getD k z55 = L[k] := by simp [List.getD, hlt]
    rw [e] at h
    by_cases h2 : L[k].f0 = c
    · rw [if_pos h2] at h; cases h
    · rw [if_neg h2] at h
      rw [if_neg h2, ih (by omega) h]
      rfl
theorem last_some (L : List S55) (c : Int) : ∀ k i, k ≤ L.length → lastI L c k = some i → i < k ∧ (L.getD i z55).f0 = c ∧ rlist ((L.take k).drop (i + 1)) c = [] := by
  intro k
  induction k with
  | zero => intro i _ h; cases h
  | succ k ih =>
    intro i hk h
    unfold lastI at h
    have hlt : k < L.length := by omega
    by_cases h2 : (L.getD k z55).f0 = c
    · rw [if_pos h2] at h
      obtain rfl := Option.some.inj h
      refine ⟨by omega, h2, ?_⟩
      rw [List.drop_eq_nil_of_le (by rw [List.length_take]; omega)]
      simp [rlist]
    · rw [if_neg h2] at h
      obtain ⟨h3, h4, h5⟩ := ih i (by omega) h
      refine ⟨by omega, h4, ?_⟩
      rw [List.take_succ_eq_append_getElem hlt, List.drop_append_of_le_length (by rw [List.length_take]; omega), rlist_append, h5, rlist_one]
      have e : L.getD k z55 = L[k] := by simp [List.getD, hlt]
      rw [e] at h2
      rw [if_neg h2]
      rfl
/-- What a program's purse has, and what the reference's. -/
structure Fits (X : Nat → List Int) (L : List S55) : Prop where
  same : ∀ i : Nat, i < 5 → X i = rlist L i
  all : ∀ x ∈ L, 0 ≤ x.f0 ∧ x.f0 < 5
theorem Fits.list {X : Nat → List Int} {L : List S55} (h : Fits X L) (c : Int) : listN X c = rlist L c := by
  unfold listN
  by_cases hc : 0 ≤ c ∧ c < 5
  · rw [if_pos hc, h.same c.toNat (by omega), show ((c.toNat : Nat) : Int) = c by omega]
  · rw [if_neg hc]
    unfold rlist
    rw [List.filter_eq_nil_iff.2 (fun x hx => by
      have := h.all x hx
      simp only [beq_iff_eq]
      intro e; apply hc; omega)]
    rfl
theorem Fits.allN {X : Nat → List Int} {L : List S55} (h : Fits X L) : allN X = rall L := by
  unfold Go.Proofs.Ytmgphebhfecfmaa.X.allN rall
  rw [h.same 0 (by omega), h.same 1 (by omega), h.same 2 (by omega), h.same 3 (by omega), h.same 4 (by omega)]
  rfl
theorem mem_rlist {L : List S55} {c a : Int} : a ∈ rlist L c ↔ ∃ x ∈ L, x.f0 = c ∧ x.f1 = a := by
  unfold rlist
  simp only [List.mem_map, List.mem_filter, beq_iff_eq]
  constructor
  · rintro ⟨x, ⟨h1, h2⟩, h3⟩; exact ⟨x, h1, h2, h3⟩
  · rintro ⟨x, h1, h2, h3⟩; exact ⟨x, ⟨h1, h2⟩, h3⟩
theorem Fits.has {X : Nat → List Int} {L : List S55} (h : Fits X L) (a : Int) : hasN (Go.Proofs.Ytmgphebhfecfmaa.X.allN X) a = rhas L a := by
  rw [h.allN, Bool.eq_iff_iff]
  unfold hasN rhas
  simp only [List.any_eq_true, beq_iff_eq, rall, List.mem_append]
  constructor
  · rintro ⟨y, hy, rfl⟩
    rcases hy with (((hy | hy) | hy) | hy) | hy
    all_goals
      obtain ⟨x, h1, _, h3⟩ := mem_rlist.1 hy
      exact ⟨x, h1, h3⟩
  · rintro ⟨x, hx, rfl⟩
    have hc := h.all x hx
    refine ⟨x.f1, ?_, rfl⟩
    have : x.f0 = 0 ∨ x.f0 = 1 ∨ x.f0 = 2 ∨ x.f0 = 3 ∨ x.f0 = 4 := by omega
    rcases this with e | e | e | e | e
    · exact .inl (.inl (.inl (.inl (mem_rlist.2 ⟨x, hx, e, rfl⟩))))
    · exact .inl (.inl (.inl (.inr (mem_rlist.2 ⟨x, hx, e, rfl⟩))))
    · exact .inl (.inl (.inr (mem_rlist.2 ⟨x, hx, e, rfl⟩)))
    · exact .inl (.inr (mem_rlist.2 ⟨x, hx, e, rfl⟩))
    · exact .inr (mem_rlist.2 ⟨x, hx, e, rfl⟩)
theorem Fits.push {X : Nat → List Int} {L : List S55} (h : Fits X L) (c a limit : Int) : pushOk X c limit = rpushOk L c limit ∧ Fits (pushX X c a limit) (rpushL L c a limit) := by
  have e : pushOk X c limit = rpushOk L c limit := by
    unfold pushOk rpushOk cls
    by_cases hc : 0 ≤ c ∧ c < 5
    · rw [h.same c.toNat (by omega), show ((c.toNat : Nat) : Int) = c by omega]
      simp [hc.1, hc.2]
    · rw [decide_eq_false (fun hh => hc ⟨hh.1, hh.2.1⟩), decide_eq_false hc]
      rfl
  refine ⟨e, ?_⟩
  unfold pushX rpushL
  rw [e]
  by_cases ho : rpushOk L c limit = true
  · rw [if_pos ho, if_pos ho]
    have hc : 0 ≤ c ∧ c < 5 := by
      unfold rpushOk cls at ho
      simp only [Bool.and_eq_true, decide_eq_true_eq] at ho
      exact ho.1
    refine ⟨fun i hi => ?_, fun x hx => ?_⟩
    · rw [rlist_append, rlist_one]
      unfold upd
      by_cases hi2 : i = c.toNat
      · rw [if_pos hi2, if_pos (by simp; omega), h.same c.toNat (by omega), hi2]
      · rw [if_neg hi2, if_neg (by simp; omega), List.append_nil]
        exact h.same i hi
    · rcases List.mem_append.1 hx with hx | hx
      · exact h.all x hx
      · rw [List.mem_singleton] at hx; subst hx; exact hc
  · rw [if_neg ho, if_neg ho]; exact h
theorem split_at (L : List S55) (i : Nat) (h : i < L.length) : L = L.take i ++ [L[i]] ++ L.drop (i + 1) := by
  rw [← List.take_succ_eq_append_getElem h, List.take_append_drop]
theorem Fits.pop {X : Nat → List Int} {L : List S55} (h : Fits X L) (c : Int) : popOk X c = rpopOk L c ∧ popV X c = rpopV L c ∧ Fits (popX X c) (rpopL L c) := by
  have hX := h.list c
  cases hl : lastI L c L.length with
  | none =>
    have h0 := last_none L c L.length (Nat.le_refl _) hl
    rw [List.take_length] at h0
    have ho : popOk X c = false := by
      refine decide_eq_false (fun hh => ?_)
      unfold listN at hX
      rw [if_pos ⟨hh.1, hh.2.1⟩, h0] at hX
      rw [hX] at hh
      exact absurd hh.2.2 (by simp)
    refine ⟨by rw [ho]; unfold rpopOk; rw [hl]; rfl, by unfold popV rpopV; rw [ho, hl]; rfl, ?_⟩
    unfold popX rpopL
    rw [ho, hl]
    exact h
  | some i =>
    obtain ⟨h1, h2, h3⟩ := last_some L c L.length i (Nat.le_refl _) hl
    rw [List.take_length] at h3
    have eg : L.getD i z55 = L[i] := by simp [List.getD, h1]
    rw [eg] at h2
    have hs := split_at L i h1
    have hr : rlist L c = rlist (L.take i) c ++ [L[i].f1] := by
      conv => lhs; rw [hs]
      rw [rlist_append, rlist_append, rlist_one, if_pos h2, h3, List.append_nil]
    have hc := h.all L[i] (List.getElem_mem h1)
    rw [h2] at hc
    have hXc : X c.toNat = rlist (L.take i) c ++ [L[i].f1] := by
      rw [← hr, ← hX]; unfold listN; rw [if_pos hc]
    have ho : popOk X c = true := decide_eq_true ⟨hc.1, hc.2, by rw [hXc]; simp⟩
    refine ⟨by rw [ho]; unfold rpopOk; rw [hl]; rfl, ?_, ?_⟩
    · unfold popV rpopV
      rw [ho, hl, if_pos rfl, hXc]
      simp only [eg]
      simp [rd, List.getD]
    · unfold popX rpopL
      rw [ho, hl, if_pos rfl]
      refine ⟨fun k hk => ?_, fun x hx => ?_⟩
      · rw [rlist_append]
        unfold upd
        by_cases hk2 : k = c.toNat
        · rw [if_pos hk2, hXc, hk2, show ((c.toNat : Nat) : Int) = c by omega, h3]
          simp
        · rw [if_neg hk2, h.same k hk]
          conv => lhs; rw [hs]
          rw [rlist_append, rlist_append, rlist_one, if_neg (by rw [h2]; omega), List.append_nil]
      · refine h.all x ?_
        rw [hs]
        rcases List.mem_append.1 hx with hx | hx
        · exact List.mem_append.2 (.inl (List.mem_append.2 (.inl hx)))
        · exact List.mem_append.2 (.inr hx)
theorem Fits.none : Fits no5 [] := ⟨fun i _ => rfl, fun x hx => by cases hx⟩
theorem rpop_len (L : List S55) (c : Int) : (rpopL L c).length ≤ L.length := by
  unfold rpopL
  split
  · exact Nat.le_refl _
  · rw [List.length_append, List.length_take, List.length_drop]; omega
theorem rpush_len (L : List S55) (c a l : Int) : (rpushL L c a l).length ≤ L.length + 1 := by
  unfold rpushL
  split
  · simp
  · omega

end Go.Proofs.Ytmgphebhfecfmaa.X

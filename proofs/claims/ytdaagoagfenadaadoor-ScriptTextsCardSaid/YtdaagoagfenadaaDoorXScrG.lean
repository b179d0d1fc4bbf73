/- What the printed functions of the references tell. Conditions: none. -/
import Derived.Test.YtdaagoagfenadaaDoorMC
import Derived.Test.YtdaagoagfenadaaDoorXScrF
import Derived.Test.YtdaagoagfenadaaDoorXScrG0
import Derived.Test.YtdaagoagfenadaaDoorYTwf14
import Derived.Test.YtdaagoagfenadaaDoorYTwf16
namespace Go.Proofs.YtdaagoagfenadaaDoor.X
open Go.RowKit Go.Proofs.YtdaagoagfenadaaDoor.YTw Go.Proofs.YtdaagoagfenadaaDoorW.PrintWords Go.Proofs.YtdaagoagfenadaaDoorW.PrintLast Go.Proofs.YtdaagoagfenadaaDoorW.PrintMore
set_option linter.unusedVariables false
set_option linter.unusedSimpArgs false
theorem refprint_run (l : List S25) (h : ∀ x ∈ l, inS x) (hl : l.length ≤ 4096) : ∀ (d i : Nat) (acc : List UInt8), i + d = l.length → acc.length ≤ 200 * i → assartref31_Print.l0 (d + 1) l (bs acc) (i : Int) = some (bs (printG (l.drop i) acc).1, (printG (l.drop i) acc).2)
  | 0, i, acc, hi, ha => by
    unfold assartref31_Print.l0
    rw [if_neg (by omega), List.drop_eq_nil_of_le (by omega), bs_size]
    unfold printG
    by_cases hb : 65536 < acc.length
    · rw [if_pos (by omega), if_pos hb]; rfl
    · rw [if_neg (by omega), if_neg hb]
  | d + 1, i, acc, hi, ha => by
    have hin : i < l.length := by omega
    unfold assartref31_Print.l0
    rw [if_pos (by omega), if_pos (by omega), drop_rd l i hin]
    have hm := rd_mem l i hin
    obtain ⟨x, hx⟩ : ∃ x, rd_T25 l (i : Int) = x := ⟨_, rfl⟩
    rw [hx] at hm ⊢
    rw [refline_f x (h x hm), Option.bind_some]
    unfold printG
    show (if (lineS x).2 = 0 then _ else _) = _
    have hlen : (lineS x).1.length ≤ 100 := line_len _ _ _ _ (h x hm _ (by simp [nums])) (h x hm _ (by simp [nums])) (fun y hy => h x hm y (by simp [nums] at hy ⊢; rcases hy with h | h | h | h | h <;> simp [h]))
    by_cases h0 : (lineS x).2 = 0
    · rw [if_pos h0, if_pos h0]
      show (if (bs acc).size + (bs (lineS x).1).size ≤ 9223372036854775807 then (if (bs acc ++ bs (lineS x).1).size + 1 ≤ 9223372036854775807 then assartref31_Print.l0 (d + 1) l ((bs acc ++ bs (lineS x).1) ++ bs [10]) (wrap64 ((i : Int) + 1)) else none) else none) = _
      rw [bs_append, bs_append, bs_size, bs_size, bs_size, if_pos (by omega), if_pos (by rw [List.length_append]; omega), w64n i (by omega)]
      exact refprint_run l h hl d (i + 1) _ (by omega) (by simp only [List.length_append, List.length_cons, List.length_nil]; omega)
    · rw [if_neg h0, if_neg h0]
      rfl
theorem refprint_f (l : List S25) (h : ∀ x ∈ l, inS x) (K : Nat) (hK : 10000 ≤ K) : assartref31_Print.f K l = some (bs (printT l).1, (printT l).2) := by
  unfold assartref31_Print.f printT
  by_cases hb : 4096 < l.length
  · rw [if_pos (by omega), if_pos hb]; rfl
  · rw [if_neg (by omega), if_neg hb]
    exact upTo (f := fun k => assartref31_Print.l0 k l (⟨#[]⟩ : ByteArray) 0) (fun k => assartref31_Print.mono_l k _ _ _) (by omega) (refprint_run l h (by omega) l.length 0 [] (by omega) (by simp))
theorem parseG_line (pre : List UInt8) (r : List (List UInt8)) (acc : List S25) : parseG ((pre ++ [10]) :: r) acc = if (entT pre).2 = 0 then parseG r (acc ++ [ofL (entT pre).1]) else ([], (entT pre).2) := by
  conv => lhs; unfold parseG
  rw [if_pos (by simp), List.dropLast_concat]
  unfold entL
  rw [List.dropLast_concat]
theorem refparse_run (s : List UInt8) (hs : s.length ≤ 65536) : ∀ (d i at_ : Nat) (acc : List S25) (pre : List UInt8), i + d = s.length → at_ + pre.length = i → s.drop at_ = pre ++ s.drop i → (∀ c ∈ pre, c ≠ 10) → acc.length ≤ at_ → assartref31_Parse.l0 (d + 1) (bs s) acc (at_ : Int) (i : Int) = some (parseG (linesL (s.drop at_)) acc)
  | 0, i, at_, acc, pre, hi, hat, hd, hp, ha => by
    unfold assartref31_Parse.l0
    have e1 : s.drop i = [] := List.drop_eq_nil_of_le (by omega)
    rw [e1, List.append_nil] at hd
    rw [bs_size, if_neg (by omega), hd]
    by_cases h0 : pre = []
    · subst h0
      have : at_ = i := by simpa using hat
      rw [if_pos (by omega)]
      show _ = some (parseG [] acc)
      unfold parseG
      by_cases hb : 4096 < acc.length
      · rw [if_pos (by omega), if_pos hb]
      · rw [if_neg (by omega), if_neg hb]
    · have hl : 0 < pre.length := List.length_pos_iff.2 h0
      rw [if_neg (by omega), lines_none10 pre h0 hp]
      unfold parseG
      rw [if_neg]
      intro hx
      exact hp 10 (List.mem_of_getLast? hx) rfl
  | d + 1, i, at_, acc, pre, hi, hat, hd, hp, ha => by
    have hin : i < s.length := by omega
    have e1 : s.drop i = s[i] :: s.drop (i + 1) := List.drop_eq_getElem_cons hin
    unfold assartref31_Parse.l0
    rw [bs_size, if_pos (by omega), if_pos (by omega), bt_bs s i hin]
    by_cases hc : s[i] = 10
    · have hc2 : ((s[i]).toNat : Int) = 10 := by rw [hc]; rfl
      have e2 : s.drop at_ = pre ++ 10 :: s.drop (i + 1) := by rw [hd, e1, hc]
      have e3 : (bs s).extract (at_ : Int).toNat (i : Int).toNat = bs pre := by
        rw [Int.toNat_natCast, Int.toNat_natCast, bs_extract, List.drop_take, hd, List.take_left' (by omega)]
      rw [if_pos hc2, if_pos (by omega), if_pos (by omega), if_pos (by omega), e3, refentry_f pre (by omega), Option.bind_some, e2, lines_app pre _ hp]
      rw [parseG_line]
      show (if (entT pre).2 = 0 then (if acc.length < 2199023255552 then assartref31_Parse.l0 (d + 1) (bs s) (acc ++ [ofL (entT pre).1]) (wrap64 ((i : Int) + 1)) (wrap64 ((i : Int) + 1)) else none) else some (([] : List S25), (entT pre).2)) = _
      by_cases h0 : (entT pre).2 = 0
      · rw [if_pos h0, if_pos h0, if_pos (by omega), w64n i (by omega)]
        exact refparse_run s hs d (i + 1) (i + 1) (acc ++ [ofL (entT pre).1]) [] (by omega) (by simp) rfl (fun c hc => by cases hc) (by simp only [List.length_append, List.length_cons, List.length_nil]; omega)
      · rw [if_neg h0, if_neg h0]
    · have hc2 : ¬ ((s[i]).toNat : Int) = 10 := by
        intro e
        apply hc
        have h10 : (10 : UInt8).toNat = 10 := rfl
        have : (s[i]).toNat = (10 : UInt8).toNat := by omega
        exact UInt8.toNat_inj.1 this
      rw [if_neg hc2, w64n i (by omega)]
      refine refparse_run s hs d (i + 1) at_ acc (pre ++ [s[i]]) (by omega) (by simp only [List.length_append, List.length_cons, List.length_nil]; omega) (by rw [hd, e1]; simp) ?_ ha
      intro c hc'
      rcases List.mem_append.1 hc' with h | h
      · exact hp c h
      · have : c = s[i] := by simpa using h
        rw [this]; exact hc
theorem refparse31_f (s : List UInt8) (hs : s.length ≤ 70000) (K : Nat) (hK : 80000 ≤ K) : assartref31_Parse.f K (bs s) = some (parseTT s) := by
  unfold assartref31_Parse.f parseTT
  rw [bs_size]
  by_cases hb : 65536 < s.length
  · rw [if_pos (by omega), if_pos hb]
  · rw [if_neg (by omega), if_neg hb]
    exact upTo (f := fun k => assartref31_Parse.l0 k (bs s) [] 0 0) (fun k => assartref31_Parse.mono_l k _ _ _ _) (by omega) (refparse_run s (by omega) s.length 0 0 [] [] (by omega) rfl rfl (fun c hc => by cases hc) (Nat.le_refl _))
end Go.Proofs.YtdaagoagfenadaaDoor.X

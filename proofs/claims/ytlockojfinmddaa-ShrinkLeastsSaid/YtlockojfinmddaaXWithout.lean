/- shrink.Without: contract by hand. Conditions: none. -/
import Derived.Test.YtlockojfinmddaaXFns
namespace Go.Proofs.Ytlockojfinmddaa.X
open Go.RowKit Go.Proofs.Ytlockojfinmddaa.PShrinkScripts Go.Proofs.YtlockojfinmddaaW.PrintWords Go.Proofs.YtlockojfinmddaaW.PrintLast Go.Proofs.YtlockojfinmddaaW.PrintMore
attribute [local go_sem] max2_int min2_int max_two min_two max_three min_three max_four min_four
set_option linter.unusedVariables false
set_option linter.unusedSimpArgs false

theorem wout_all (l : List S39) (fr many : Int) (h : fr < 0 ∨ (l.length : Int) ≤ fr ∨ many < 1) : wout l fr many = l := by
  unfold wout
  split
  · rfl
  · rename_i hh
    rw [List.take_of_length_le (by omega), List.drop_eq_nil_of_le (by omega), List.append_nil]
set_option maxHeartbeats 2000000 in
theorem without_all (A : Option Addr) (c : Nat) (l : List S39) (fr many : Int) (w : World) (hC : Kd.C k39 w A l.length l) (hl : l.length ≤ 1000) (h : fr < 0 ∨ (l.length : Int) ≤ fr ∨ many < 1) : Calls Try.prog 8 #[.slice A l.length c, .int .i64 fr, .int .i64 many] w (Row w (wout l fr many)) := by
  rw [wout_all l fr many h]
  have hh : decide (fr < 0) = true ∨ (decide (fr < 0) = false ∧ decide ((l.length : Int) ≤ fr) = true) ∨ (decide (fr < 0) = false ∧ decide ((l.length : Int) ≤ fr) = false ∧ decide (many < 1) = true) := by
    by_cases h0 : fr < 0
    · exact .inl (decide_eq_true h0)
    · by_cases h1 : (l.length : Int) ≤ fr
      · exact .inr (.inl ⟨decide_eq_false h0, decide_eq_true h1⟩)
      · exact .inr (.inr ⟨decide_eq_false h0, decide_eq_false h1, decide_eq_true (by omega)⟩)
  have HC := Aside0.mk hC
  have HL := Aside0.mk hl
  clear h hC hl
  rcases hh with b0 | ⟨b0, b1⟩ | ⟨b0, b1, b2⟩
  all_goals
    go_enter Try.func8, Try.ntmps8
    go_wp2_with (go_at_call 17; refine (clone_calls A c l _ HC.out HL.out).mono ?_; rintro e w1 ⟨A1, c1, rfl, hR, hB⟩)
    go_ret
    exact ⟨A1, c1, rfl, hR, hB⟩
theorem cut1 {w : World} {ad : Addr} {l : List S39} {f : Nat} (h : Kd.C k39 w (some ad) l.length l) (W : World) (hb : Below w.heap.size w W) (hf : f ≤ l.length) : Kd.C k39 W (some ad) (l.take f).length (l.take f) := Kd.C_below (Kd.C_take h hf) hb
theorem cut2 {w : World} {ad : Addr} {l : List S39} {k c : Nat} (h : Kd.C k39 w (some ad) l.length l) (W : World) (hb : Below w.heap.size w W) (hk : k ≤ l.length) (hc : l.length ≤ c) : Kd.C k39 W (if c = k then some ad else some (ad.add (k * 8))) (l.drop k).length (l.drop k) := Kd.C_below (Kd.C_drop h hk hc) hb
theorem concat_to (g : Nat) (A1 A2 : Option Addr) (c1 c2 : Nat) (l1 l2 : List S39) (n1 n2 : Nat) (w : World) (e1 : l1.length = n1) (e2 : l2.length = n2) (hg : w.heap[g]? = some (.cells #[.slice A1 n1 c1, .slice A2 n2 c2] 25)) (h1 : Kd.C k39 w A1 l1.length l1) (h2 : Kd.C k39 w A2 l2.length l2) (hl : n1 + n2 ≤ 1000) (L : List S39) (hL : l1 ++ l2 = L) : Calls Try.prog 18 #[.slice (some ⟨g, 0, none⟩) 2 2] w (Row w L) := by
  subst e1 e2 hL
  exact concat_calls g A1 A2 c1 c2 l1 l2 w ⟨hg, h1, h2⟩ hl
theorem without_cut (ad : Addr) (c n f k : Nat) (l : List S39) (fr many : Int) (w : World) (hC : Kd.C k39 w (some ad) l.length l) (hn : l.length = n) (hf : (f : Int) = fr) (hlt : f < n) (hfk : f < k) (hk : k ≤ n) (hm0 : 1 ≤ many) (hc : n ≤ c) (hl : n ≤ 1000) (hmn : ((k : Int) = fr + many ∧ many ≤ (n : Int) - fr) ∨ ((k : Int) = (n : Int) ∧ (n : Int) - fr < many)) (L : List S39) (hL : l.take f ++ l.drop k = L) : Calls Try.prog 8 #[.slice (some ad) n c, .int .i64 fr, .int .i64 many] w (Row w L) := by
  have HLE := Aside0.mk hL
  have b0 : decide (fr < 0) = false := decide_eq_false (by omega)
  have b1 : decide ((n : Int) ≤ fr) = false := decide_eq_false (by omega)
  have b2 : decide (many < 1) = false := decide_eq_false (by omega)
  have HC := Aside0.mk hC
  have HN := Aside0.mk hn
  clear hC hn hL
  rcases hmn with ⟨hmm, hle⟩ | ⟨hmm, hle⟩
  · have d0 : ((n : Int) - fr < many) = False := eq_false (by omega)
    have d1 : decide ((n : Int) - fr < many) = false := decide_eq_false (by omega)
    have hs1 : IntKind.i64.wrap (fr + many) = fr + many := IntWalk.i64_in _ (by omega)
    have hs2 : (0 : Int) ≤ fr + many := by omega
    have hs3 : fr + many ≤ (n : Int) := by omega
    have hs4 : (fr + many).toNat = k := by omega
    have hs5 : (0 : Int) ≤ fr := by omega
    have hs6 : fr ≤ (c : Int) := by omega
    have hs7 : fr.toNat = f := by omega
    have hs8 : k ≤ n := by omega
    have hs9 : n ≤ c := by omega
    have hs10 : f ≤ c := by omega
    have hs11 : (n : Int) ≤ 1000 := by omega
    have hs12 : fr < (n : Int) := by omega
    have HM := Aside0.mk (And.intro hs8 (And.intro hs9 (And.intro hs11 (And.intro (show f ≤ n by omega) hfk))))
    obtain ⟨A2, hA2⟩ : ∃ A2, (if c = k then some ad else some (ad.add (k * 8))) = A2 := ⟨_, rfl⟩
    have HA2 := Aside0.mk hA2
    clear hlt hc hl hmm hk hf hfk
    go_enter Try.func8, Try.ntmps8
    go_wp2_with fail
    go_region_held3 (fun _ => True) (first | trivial) (first | (go_at_call 18; go_loud (refine (concat_to _ (some ad) A2 c (c - k) (l.take f) (l.drop k) f (n - k) _ (by rw [List.length_take]; have := HM.out; have := HN.out; omega) (by rw [List.length_drop]; have := HN.out; omega) (blk_drew (blk_new w _)) (cut1 HC.out _ (below_drew (ballo (Below.refl _ _) _)) (by have := HM.out; have := HN.out; omega)) (HA2.out ▸ cut2 HC.out _ (below_drew (ballo (Below.refl _ _) _)) (by have := HM.out; have := HN.out; omega) (by have := HM.out; have := HN.out; omega)) (by have := HM.out; omega) L HLE.out).mono ?_; rintro e w1 ⟨A1, c1, rfl, hR, hB⟩)))
    go_wp2_with fail
    go_ret
    exact ⟨A1, c1, rfl, Kd.R_lower hR (show w.heap.size ≤ _ from (ballo (Below.refl w.heap.size w) _).size), bthen (below_drew (ballo (Below.refl _ _) _)) hB⟩
  · have d0 : ((n : Int) - fr < many) = True := eq_true hle
    have d1 : decide ((n : Int) - fr < many) = true := decide_eq_true hle
    have hs1 : IntKind.i64.wrap (fr + ((n : Int) - fr)) = fr + ((n : Int) - fr) := IntWalk.i64_in _ (by omega)
    have hs2 : (0 : Int) ≤ fr + ((n : Int) - fr) := by omega
    have hs3 : fr + ((n : Int) - fr) ≤ (n : Int) := by omega
    have hs4 : (fr + ((n : Int) - fr)).toNat = k := by omega
    have hs5 : (0 : Int) ≤ fr := by omega
    have hs6 : fr ≤ (c : Int) := by omega
    have hs7 : fr.toNat = f := by omega
    have hs8 : k ≤ n := by omega
    have hs9 : n ≤ c := by omega
    have hs10 : f ≤ c := by omega
    have hs11 : (n : Int) ≤ 1000 := by omega
    have hs12 : fr < (n : Int) := by omega
    have HM := Aside0.mk (And.intro hs8 (And.intro hs9 (And.intro hs11 (And.intro (show f ≤ n by omega) hfk))))
    obtain ⟨A2, hA2⟩ : ∃ A2, (if c = k then some ad else some (ad.add (k * 8))) = A2 := ⟨_, rfl⟩
    have HA2 := Aside0.mk hA2
    clear hlt hc hl hmm hk hf hfk
    go_enter Try.func8, Try.ntmps8
    go_wp2_with fail
    go_region_held3 (fun _ => True) (first | trivial) (first | (go_at_call 18; go_loud (refine (concat_to _ (some ad) A2 c (c - k) (l.take f) (l.drop k) f (n - k) _ (by rw [List.length_take]; have := HM.out; have := HN.out; omega) (by rw [List.length_drop]; have := HN.out; omega) (blk_drew (blk_new w _)) (cut1 HC.out _ (below_drew (ballo (Below.refl _ _) _)) (by have := HM.out; have := HN.out; omega)) (HA2.out ▸ cut2 HC.out _ (below_drew (ballo (Below.refl _ _) _)) (by have := HM.out; have := HN.out; omega) (by have := HM.out; have := HN.out; omega)) (by have := HM.out; omega) L HLE.out).mono ?_; rintro e w1 ⟨A1, c1, rfl, hR, hB⟩)))
    go_wp2_with fail
    go_ret
    exact ⟨A1, c1, rfl, Kd.R_lower hR (show w.heap.size ≤ _ from (ballo (Below.refl w.heap.size w) _).size), bthen (below_drew (ballo (Below.refl _ _) _)) hB⟩

theorem without_calls (A : Option Addr) (c : Nat) (l : List S39) (fr many : Int) (w : World) (hC : Kd.C k39 w A l.length l) (hc : l.length ≤ c) (hl : l.length ≤ 1000) : Calls Try.prog 8 #[.slice A l.length c, .int .i64 fr, .int .i64 many] w (Row w (wout l fr many)) := by
  by_cases h : fr < 0 ∨ (l.length : Int) ≤ fr ∨ many < 1
  · exact without_all A c l fr many w hC hl h
  · cases A with
    | none =>
      have := (c_none hC).2
      exact absurd h (by omega)
    | some ad =>
      have e : ∀ k : Nat, ((k : Int) = fr + many ∨ (k : Int) = l.length ∧ (l.length : Int) ≤ fr + many) → wout l fr many = l.take fr.toNat ++ l.drop k := by
        intro k hk
        unfold wout
        rw [if_neg (by omega)]
        congr 1
        rcases hk with hk | ⟨hk, hk2⟩
        · rw [show (fr + many).toNat = k by omega]
        · rw [List.drop_eq_nil_of_le (by omega), List.drop_eq_nil_of_le (by omega)]
      by_cases h2 : many ≤ (l.length : Int) - fr
      · exact without_cut ad c l.length fr.toNat (fr + many).toNat l fr many w hC rfl (by omega) (by omega) (by omega) (by omega) (by omega) hc hl (.inl ⟨by omega, h2⟩) _ (e _ (.inl (by omega))).symm
      · exact without_cut ad c l.length fr.toNat l.length l fr many w hC rfl (by omega) (by omega) (by omega) (by omega) (by omega) hc hl (.inr ⟨rfl, by omega⟩) _ (e _ (.inr ⟨rfl, by omega⟩)).symm

end Go.Proofs.Ytlockojfinmddaa.X

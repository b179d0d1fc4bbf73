/- The printed function of ScriptCut tells true. Conditions: none. -/
import Derived.Test.YtdaagoagfenadaaDoorXScrF
import Derived.Test.YtdaagoagfenadaaDoorYTwf6
import Derived.Test.YtdaagoagfenadaaDoorMC
namespace Go.Proofs.YtdaagoagfenadaaDoor.X
open Go.RowKit Go.Proofs.YtdaagoagfenadaaDoor.YTw Go.Proofs.YtdaagoagfenadaaDoorW.PrintWords Go.Proofs.YtdaagoagfenadaaDoorW.PrintLast Go.Proofs.YtdaagoagfenadaaDoorW.PrintMore
set_option linter.unusedVariables false
set_option linter.unusedSimpArgs false
theorem parse_f (s : List UInt8) : script_Parse.f (bs s) = some (parseTT s) := rfl
theorem cut_j2 (k : Nat) (a : List S25) (h : ∀ x ∈ a, inS x) (t : List UInt8) (ht : printT a = (t, 0)) (n : Int) : assartlaw31_ScriptCut.j2 (k + 1) n (bs t) false = some true := by
  have h3 := (print_ok a t ht).2.2.1
  rw [assartlaw31_ScriptCut.j2]
  have e1 : IntKind.u64.wrap (wrap64 (((bs t).size : Int) + 1)) = ((t.length + 1 : Nat) : Int) := by
    rw [bs_size, w64n t.length (by omega)]
    exact IntWalk.u64_in _ ⟨by omega, by omega⟩
  obtain ⟨N, hN⟩ : ∃ N : Nat, wrap64 (Int.tmod (IntKind.u64.wrap n) (IntKind.u64.wrap (wrap64 (((bs t).size : Int) + 1)))) = (N : Int) ∧ N ≤ t.length := by
    rw [e1]
    have h0 := wrap_u64_nonneg n
    rw [Int.tmod_eq_emod_of_nonneg h0]
    have h1 := Int.emod_nonneg (IntKind.u64.wrap n) (show ((t.length + 1 : Nat) : Int) ≠ 0 by omega)
    have h2 := Int.emod_lt_of_pos (IntKind.u64.wrap n) (show (0 : Int) < ((t.length + 1 : Nat) : Int) by omega)
    refine ⟨(IntKind.u64.wrap n % ((t.length + 1 : Nat) : Int)).toNat, ?_, by omega⟩
    rw [w64 (by omega) (by omega)]
    omega
  obtain ⟨hN, hNl⟩ := hN
  rw [hN, e1, bs_size, if_neg (by decide), if_neg (by omega), if_pos (by omega), if_pos (by omega), Int.toNat_natCast, bs_extract, List.drop_zero, parse_f, Option.bind_some]
  have hcut := parse_cut a t N h ht
  by_cases hN0 : N = 0
  · subst hN0
    rw [if_pos (show ((0 : Nat) : Int) = 0 by rfl)]
    have e0 : (parseTT (t.take 0)).2 = 0 := hcut.2 (.inl rfl)
    rw [e0, if_pos (by decide), lives_f]
    rfl
  · have e2 : wrap64 ((N : Int) - 1) = ((N - 1 : Nat) : Int) := by rw [w64 (by omega) (by omega)]; omega
    rw [if_neg (by omega), e2, if_pos (by omega), if_pos (by omega), bt_bs t (N - 1) (by omega)]
    have hlast : (t.take N).getLast? = some t[N - 1] := by
      rw [List.getLast?_eq_getElem?, List.length_take, Nat.min_eq_left hNl, List.getElem?_take, if_pos (by omega)]
      exact List.getElem?_eq_getElem _
    have hne : t.take N ≠ [] := by
      intro e
      rw [e] at hlast
      cases hlast
    have key : (parseTT (t.take N)).2 = 0 ↔ t[N - 1] = 10 := by
      rw [hcut, hlast]
      constructor
      · rintro (h | h)
        · exact absurd h hne
        · exact Option.some.inj h
      · intro h
        exact .inr (by rw [h])
    rw [if_pos, lives_f]
    · rfl
    · by_cases h1 : (parseTT (t.take N)).2 = 0
      · have h2 := key.1 h1
        rw [h1, h2]
        rfl
      · have h2 : t[N - 1] ≠ 10 := fun e => h1 (key.2 e)
        have h4 : ((parseTT (t.take N)).2 == 0) = false := by simpa using h1
        have h5 : ((t[N - 1].toNat : Int) == 10) = false := by
          rw [beq_eq_false_iff_ne]
          intro e
          apply h2
          have h10 : (10 : UInt8).toNat = 10 := rfl
          have : t[N - 1].toNat = (10 : UInt8).toNat := by omega
          exact UInt8.toNat_inj.1 this
        rw [h4, h5]
        rfl
theorem cut_law (a b : List S25) (ha : ∀ x ∈ a, inS x) (hb : ∀ x ∈ b, inS x) (n : Int) : assartlaw31_ScriptCut.f (200000 + 1 + 1 + 1) a b n = some true := by
  unfold assartlaw31_ScriptCut.f
  have hl : ∀ k, assartlaw31_ScriptCut.j0 (k + 1) a b n true = some true := by
    intro k
    rw [assartlaw31_ScriptCut.j0]
    rw [if_pos rfl, lives_f]
    rfl
  have hl1 : ∀ k x y, assartlaw31_ScriptCut.j1 (k + 1) a b n x y true = some true := by
    intro k x y
    rw [assartlaw31_ScriptCut.j1]
    rw [if_pos rfl, lives_f]
    rfl
  by_cases h1 : 500 < a.length
  · rw [if_pos (by omega)]; exact hl (200000 + 1 + 1)
  · rw [if_neg (by omega)]
    by_cases h2 : 500 < b.length
    · rw [decide_eq_true (by omega)]; exact hl (200000 + 1 + 1)
    · rw [decide_eq_false (by omega)]
      rw [assartlaw31_ScriptCut.j0]
      rw [if_neg (by decide), print_f a ha, Option.bind_some, print_f b hb, Option.bind_some]
      by_cases p1 : (printT a).2 = 0
      · rw [if_pos p1]
        by_cases p2 : (printT b).2 = 0
        · rw [if_pos p2]
          obtain ⟨x, hx⟩ : ∃ x, printT a = (x, 0) := ⟨_, Prod.ext rfl p1⟩
          obtain ⟨y, hy⟩ : ∃ y, printT b = (y, 0) := ⟨_, Prod.ext rfl p2⟩
          rw [hx, hy]
          show assartlaw31_ScriptCut.j1 (200000 + 1 + 1) a b n (bs x) (bs y) (decide (wrap64 (((bs x).size : Int) + ((bs y).size : Int)) > 60000)) = _
          rw [bs_size, bs_size]
          have l1 := (print_ok a x hx).2.2.1
          have l2 := (print_ok b y hy).2.2.1
          rw [w64 (by omega) (by omega)]
          by_cases hbig : 60000 < x.length + y.length
          · rw [decide_eq_true (by omega)]; exact hl1 (200000 + 1) _ _
          · rw [decide_eq_false (by omega)]
            have happ := print_app a b x y hx hy (by omega) (by omega)
            rw [assartlaw31_ScriptCut.j1]
            rw [if_neg (by decide), Option.bind_some, if_pos (by simp; omega), Option.bind_some, if_pos (by simp; omega)]
            show (script_Print.f (a ++ b)).bind _ = _
            rw [print_f (a ++ b) (fun z hz => (List.mem_append.1 hz).elim (ha z) (hb z)), happ, Option.bind_some, if_pos rfl, bs_size, bs_size, if_pos (by omega), bs_append]
            have e : ((bs (x ++ y)).toList != (bs (x ++ y)).toList) = false := by simp
            show assartlaw31_ScriptCut.j2 (200000 + 1) n (bs x) ((bs (x ++ y)).toList != (bs (x ++ y)).toList) = _
            rw [e]
            exact cut_j2 200000 a ha x hx n
        · rw [if_neg p2]; exact hl1 (200000 + 1) _ _
      · rw [if_neg p1]; exact hl1 (200000 + 1) _ _
end Go.Proofs.YtdaagoagfenadaaDoor.X

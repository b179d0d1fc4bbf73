/- The example of the document, and an arena that is filled: contracts by hand. Conditions: none. -/
import Derived.Test.YtahkfgeaegdbjaaXRef
namespace Go.Proofs.Ytahkfgeaegdbjaa.X
open Go.RowKit Go.Proofs.YtahkfgeaegdbjaaW.PrintWords
set_option linter.unusedVariables false
set_option linter.unusedSimpArgs false

theorem load_to {w : World} {q g : Nat} {ws : List Int} {c : Int} (h : Ar w q g ws c) (a : Int) (c' t e' : Int) (hc : cntN ws c a = c') (ht : (if inR ws a then rd ws a else 0) = t) (he : (if inR ws a then 0 else 3) = e') :
    Calls Try.prog 14 #[.pointer (some ⟨q, 0, none⟩), .int .i64 a] w fun e w' => e = .returned (.tuple #[.int .i64 t, .int .i64 e']) ∧ Ar w' q g ws c' ∧ Keep w w' q g := by
  subst hc ht he
  have := load_calls w q g ws c a h
  rw [set_same, ite_self] at this
  exact this
theorem store_to {w : World} {q g : Nat} {ws : List Int} {c : Int} (h : Ar w q g ws c) (a x : Int) (ws' : List Int) (c' e' : Int) (hw : (if inR ws a then ws.set a.toNat x else ws) = ws') (hc : cntN ws c a = c') (he : (if inR ws a then 0 else 3) = e') :
    Calls Try.prog 17 #[.pointer (some ⟨q, 0, none⟩), .int .i64 a, .int .i64 x] w fun e w' => e = .returned (.int .i64 e') ∧ Ar w' q g ws' c' ∧ Keep w w' q g := by
  subst hw hc he
  exact store_calls w q g ws c a x h
theorem swap_to {w : World} {q g : Nat} {ws : List Int} {c : Int} (h : Ar w q g ws c) (a old x : Int) (ws' : List Int) (c' t e' : Int) (hw : (if inR ws a then ws.set a.toNat (swN (rd ws a) old x) else ws) = ws') (hc : cntN ws c a = c') (ht : (if inR ws a then rd ws a else 0) = t) (he : (if inR ws a then 0 else 3) = e') :
    Calls Try.prog 18 #[.pointer (some ⟨q, 0, none⟩), .int .i64 a, .int .i64 old, .int .i64 x] w fun e w' => e = .returned (.tuple #[.int .i64 t, .int .i64 e']) ∧ Ar w' q g ws' c' ∧ Keep w w' q g := by
  subst hw hc ht he
  exact swap_calls w q g ws c a old x h
theorem bump_to {w : World} {q g : Nat} {ws : List Int} {c : Int} (h : Ar w q g ws c) (a most : Int) (ws' : List Int) (c' t e' : Int) (hw : (if inR ws a then ws.set a.toNat (buN (rd ws a) most) else ws) = ws') (hc : cntN ws c a = c') (ht : (if inR ws a then buN (rd ws a) most else 0) = t) (he : (if inR ws a then buE (rd ws a) most else 3) = e') :
    Calls Try.prog 13 #[.pointer (some ⟨q, 0, none⟩), .int .i64 a, .int .i64 most] w fun e w' => e = .returned (.tuple #[.int .i64 t, .int .i64 e']) ∧ Ar w' q g ws' c' ∧ Keep w w' q g := by
  subst hw hc ht he
  exact bump_calls w q g ws c a most h

theorem lives_calls (w : World) : Calls Try.prog 8 #[] w fun e w' => e = .returned (.bool true) ∧ Below w.heap.size w w' := by
  go_enter Try.func8, Try.ntmps8
  go_wp2_with (first
    | (go_at_call 9; refine (new_calls 4 _ (by omega) (by omega)).mono ?_; rintro e w1 ⟨q, g, rfl, hA1, hq, hg, hB1⟩)
    | (go_at_call 17; refine (store_to (ws := [0, 0, 0, 0]) (c := 0) hA1 2 7 [0, 0, 7, 0] 1 0 (by decide +kernel) (by decide +kernel) (by decide +kernel)).mono ?_; rintro e w2 ⟨rfl, hA2, hK2⟩)
    | (go_at_call 18; refine (swap_to hA2 2 7 9 [0, 0, 9, 0] 2 7 0 (by decide +kernel) (by decide +kernel) (by decide +kernel) (by decide +kernel)).mono ?_; rintro e w3 ⟨rfl, hA3, hK3⟩)
    | (go_at_call 13; refine (bump_to hA3 2 9 [0, 0, 9, 0] 3 9 8 (by decide +kernel) (by decide +kernel) (by decide +kernel) (by decide +kernel)).mono ?_; rintro e w4 ⟨rfl, hA4, hK4⟩)
    | (go_at_call 11; refine (count_calls _ q g _ _ hA4).mono ?_; rintro e w5 ⟨rfl, rfl⟩)
    | (go_at_call 10; refine (len_calls _ q g _ _ hA4).mono ?_; rintro e w6 ⟨rfl, rfl⟩))
  go_ret
  refine ⟨rfl, ?_⟩
  have b2 := Keep.below hB1 hK2 hB1.size hq hg
  have b3 := Keep.below b2 hK3 b2.size hq hg
  exact Keep.below b3 hK4 b3.size hq hg

end Go.Proofs.Ytahkfgeaegdbjaa.X

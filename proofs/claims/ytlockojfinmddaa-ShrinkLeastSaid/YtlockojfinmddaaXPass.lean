/- The shrinker's pass: contract by hand. Conditions: none. -/
import Derived.Test.YtlockojfinmddaaXTry
namespace Go.Proofs.Ytlockojfinmddaa.X
open Go.RowKit Go.Proofs.Ytlockojfinmddaa.PShrinkScripts Go.Proofs.YtlockojfinmddaaW.PrintWords Go.Proofs.YtlockojfinmddaaW.PrintLast Go.Proofs.YtlockojfinmddaaW.PrintMore
set_option linter.unusedVariables false
set_option linter.unusedSimpArgs false

theorem try_to (q : Nat) (P : Qs) (A : Option Addr) (c : Nat) (l : List S39) (fr many : Int) (r : Bool) (m : List S39) (w : World) (h : Sh w q P A c l) (hl : l.length ≤ 1000) (hr : P.h (wout l fr many) = r) (hm : tried P l fr many = m) : Calls Try.prog 24 #[.pointer (some ⟨q, 0, none⟩), .int .i64 fr, .int .i64 many] w fun e w' => e = .returned (.bool r) ∧ Kq w w' q ∧ ∃ A c, Sh w' q P A c m := by
  subst hr hm
  exact try_calls q P A c l fr many w h hl
def PassPost (w : World) (q : Nat) (P : Qs) (r : List S39 × Bool) (e : Ending) (w' : World) : Prop := e = .returned (.bool r.2) ∧ Kq w w' q ∧ ∃ A c, Sh w' q P A c r.1
set_option maxHeartbeats 2000000 in
theorem pass_calls (q : Nat) (P : Qs) (A : Option Addr) (c : Nat) (l : List S39) (many : Int) (w : World) (h : Sh w q P A c l) (hl : l.length ≤ 1000) (h1 : 1 ≤ many) (h2 : many ≤ 1000) : Calls Try.prog 20 #[.pointer (some ⟨q, 0, none⟩), .int .i64 many] w (PassPost w q P (passF P.h many l.length l 0 false)) := by
  obtain ⟨r, hr⟩ : ∃ r, passF P.h many l.length l 0 false = r := ⟨_, rfl⟩
  rw [hr]
  have H := Aside0.mk h
  have HL := Aside0.mk hl
  have HR := Aside0.mk hr
  clear h hl hr
  go_enter Try.func20, Try.ntmps20
  go_wp2
  go_loopg [5, 6] l.length (fun kq v5 v6 w' => ∃ (a : Int) (less : Bool) (l2 : List S39) (A : Option Addr) (c : Nat), v5 = .bool less ∧ v6 = .int .i64 a ∧ 0 ≤ a ∧ a ≤ 2000 ∧ Aside0 ((l2.length : Int) - a ≤ kq ∧ l2.length ≤ 1000) ∧ Aside0 (passF P.h many kq l2 a less = r) ∧ Aside0 (Sh w' q P A c l2) ∧ Aside0 (Kq w w' q))
  case atStart => exact ⟨0, false, l, A, c, rfl, rfl, by omega, by omega, ⟨by omega, HL.out⟩, HR, H, ⟨Kq.refl _ _⟩⟩
  case round =>
    obtain ⟨a, less, l2, A2, c2, rfl, rfl, ha0, ha1, HK, HP, HS, HQ⟩ := hrel
    have x0 : wr.cell? ⟨q, 0, none⟩ = some (.slice A2 l2.length c2) := blk_cell HS.out.blk 0
    by_cases hlt : a < (l2.length : Int)
    · have hd : decide (a < (l2.length : Int)) = true := decide_eq_true hlt
      obtain ⟨gk, rfl⟩ : ∃ k, gk = k + 1 := ⟨gk - 1, by have := HK.out; omega⟩
      have HA := Aside0.mk (And.intro ha0 (And.intro ha1 hlt))
      have hP := HP.out
      unfold passF at hP
      rw [if_pos hlt] at hP
      have HW := Aside0.mk (wout_less l2 a many ha0 hlt h1)
      by_cases hb : P.h (wout l2 a many) = true
      · rw [if_pos hb] at hP
        have HP2 := Aside0.mk hP
        have HB := Aside0.mk hb
        have HT : Aside0 (tried P l2 a many = wout l2 a many) := ⟨if_pos hb⟩
        clear hP hlt hb
        go_wp2_with (go_at_call 24; refine (try_to q P A2 c2 l2 a many true (wout l2 a many) wr HS.out HK.out.2 HB.out HT.out).mono ?_; rintro e w3 ⟨rfl, hk3, A3, c3, hs3⟩)
        go_roundg gk
        case measure => omega
        case rel =>
          have := HW.out
          have := HK.out
          exact ⟨a, true, _, A3, c3, rfl, rfl, ha0, ha1, ⟨by omega, by omega⟩, HP2, ⟨hs3⟩, ⟨HQ.out.trans hk3⟩⟩
      · rw [if_neg hb] at hP
        have HP2 := Aside0.mk hP
        have HB := Aside0.mk (Bool.eq_false_iff.2 hb)
        have HT : Aside0 (tried P l2 a many = l2) := ⟨if_neg hb⟩
        have hlt2 : a ≤ 1000 := by have := HK.out; omega
        clear hP hlt hb
        go_wp2_with (go_at_call 24; refine (try_to q P A2 c2 l2 a many false l2 wr HS.out HK.out.2 HB.out HT.out).mono ?_; rintro e w3 ⟨rfl, hk3, A3, c3, hs3⟩)
        go_roundg gk
        case measure => omega
        case rel =>
          have := HK.out
          exact ⟨a + many, less, _, A3, c3, rfl, by first | rfl | (congr 1; rw [w64 (by omega) (by omega)]), by omega, by omega, ⟨by omega, by omega⟩, HP2, ⟨hs3⟩, ⟨HQ.out.trans hk3⟩⟩
    · have hd : decide (a < (l2.length : Int)) = false := decide_eq_false hlt
      have hP : (l2, less) = r := by
        have hP := HP.out
        cases gk with
        | zero => exact hP
        | succ k => unfold passF at hP; rw [if_neg hlt] at hP; exact hP
      subst hP
      clear hlt
      go_wp2
      go_ret
      exact ⟨rfl, HQ.out, A2, c2, HS.out⟩

end Go.Proofs.Ytlockojfinmddaa.X

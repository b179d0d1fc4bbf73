/- An arena is made; how many words it has, how many accesses there were: contracts by hand. Conditions: none. -/
import Derived.Test.YtahkfgeaegdbjaaXAr
namespace Go.Proofs.Ytahkfgeaegdbjaa.X
open Go.RowKit Go.Proofs.YtahkfgeaegdbjaaW.PrintWords
set_option linter.unusedVariables false
set_option linter.unusedSimpArgs false

theorem info3 : (Try.prog.info? 3).map (fun i => (i.zero, i.size, i.bytes)) = some (some (.int .i64 0), 1, 8) := by kernel_rfl
theorem ar_new (w : World) (m : Nat) (hm : m ≤ 1048576) : Ar ((w.alloc (.cells (madeCells #[.int .i64 0] m) 3)).alloc (.cells #[.slice (some ⟨w.heap.size, 0, none⟩) m m, .int .i64 0] 53)) (w.heap.size + 1) w.heap.size (List.replicate m 0) 0 where
  c0 := by rw [List.length_replicate]; simp
  c1 := by simp
  f1 := by simp
  row := by
    rw [List.length_replicate]
    exact own_eq (own_made w 0 3 .i64 m (Nat.zero_le _) (by omega)) (Below.heap_alloc _ _ _ (by simp))
  ne := by omega
  lq := by simp
  lg := by simp; omega
theorem new_calls (n : Int) (w : World) (h0 : 1 ≤ n) (h1 : n ≤ 1048576) : Calls Try.prog 9 #[.int .i64 n] w fun e w' => ∃ q g, e = .returned (.tuple #[.pointer (some ⟨q, 0, none⟩), .int .i64 0]) ∧ Ar w' q g (List.replicate n.toNat 0) 0 ∧ w.heap.size ≤ q ∧ w.heap.size ≤ g ∧ Below w.heap.size w w' := by
  obtain ⟨m, rfl⟩ := Int.eq_ofNat_of_zero_le (show 0 ≤ n by omega)
  have b0 : decide ((m : Int) < 1) = false := decide_eq_false (by omega)
  have b1 : decide ((1048576 : Int) < (m : Int)) = false := decide_eq_false (by omega)
  have HM := Aside0.mk (And.intro h0 h1)
  have hmk := print_make (P := Try.prog) 30 3 .i64 8 Try.underlying30 info3 (by decide) m (by omega)
  clear h0 h1
  go_enter Try.func9, Try.ntmps9
  go_wp2
  go_ret2
  exact ⟨_, _, rfl, ar_new w m (by have := HM.out; omega), by omega, Nat.le_refl _, ((Below.refl _ _).alloc (Nat.le_refl _) _).alloc (by simp) _⟩
theorem new_bad (n : Int) (w : World) (h : n < 1 ∨ 1048576 < n) : Calls Try.prog 9 #[.int .i64 n] w fun e w' => e = .returned (.tuple #[.pointer none, .int .i64 2]) ∧ w' = w := by
  by_cases h0 : n < 1
  · have b0 : decide (n < 1) = true := decide_eq_true h0
    clear h h0
    go_enter Try.func9, Try.ntmps9
    go_wp2
    go_ret2
    exact ⟨rfl, rfl⟩
  · have b0 : decide (n < 1) = false := decide_eq_false h0
    have b1 : decide ((1048576 : Int) < n) = true := decide_eq_true (by omega)
    clear h h0
    go_enter Try.func9, Try.ntmps9
    go_wp2
    go_ret2
    exact ⟨rfl, rfl⟩
theorem len_calls (w : World) (q g : Nat) (ws : List Int) (c : Int) (h : Ar w q g ws c) : Calls Try.prog 10 #[.pointer (some ⟨q, 0, none⟩)] w fun e w' => e = .returned (.int .i64 ws.length) ∧ w' = w := by
  have c0 := h.c0
  clear h
  go_enter Try.func10, Try.ntmps10
  go_wp2
  go_ret
  exact ⟨rfl, rfl⟩
theorem len_nil (w : World) : Calls Try.prog 10 #[.pointer none] w fun e w' => e = .returned (.int .i64 0) ∧ w' = w := by
  go_enter Try.func10, Try.ntmps10
  go_wp2
  go_ret
  exact ⟨rfl, rfl⟩
theorem count_calls (w : World) (q g : Nat) (ws : List Int) (c : Int) (h : Ar w q g ws c) : Calls Try.prog 11 #[.pointer (some ⟨q, 0, none⟩)] w fun e w' => e = .returned (.int .i64 c) ∧ w' = w := by
  have c1 := h.c1
  clear h
  go_enter Try.func11, Try.ntmps11
  go_wp2
  go_ret
  exact ⟨rfl, rfl⟩
theorem count_nil (w : World) : Calls Try.prog 11 #[.pointer none] w fun e w' => e = .returned (.int .i64 0) ∧ w' = w := by
  go_enter Try.func11, Try.ntmps11
  go_wp2
  go_ret
  exact ⟨rfl, rfl⟩

end Go.Proofs.Ytahkfgeaegdbjaa.X

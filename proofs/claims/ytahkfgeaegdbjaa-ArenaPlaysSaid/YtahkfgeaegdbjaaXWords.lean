/- All words of an arena, and an arena apart: contracts by hand. Conditions: none. -/
import Derived.Test.YtahkfgeaegdbjaaXOps
import Derived.RegionTactic
namespace Go.Proofs.Ytahkfgeaegdbjaa.X
open Go.RowKit Go.Proofs.YtahkfgeaegdbjaaW.PrintWords
set_option linter.unusedVariables false
set_option linter.unusedSimpArgs false

theorem Ar.R {w : World} {q g : Nat} {ws : List Int} {c : Int} (h : Ar w q g ws c) : Kd.R (Kd.int .i64) 3 w 0 (fun _ => True) (.slice (some ⟨g, 0, none⟩) ws.length ws.length) ws := Kd.R_of_own h.row (fun _ _ => trivial)
theorem Ar.C {w : World} {q g : Nat} {ws : List Int} {c : Int} (h : Ar w q g ws c) : Kd.C (Kd.int .i64) w (some ⟨g, 0, none⟩) ws.length ws := (Kd.R_reads' h.R).2.2
theorem ar_box {base : Nat} (w : World) (b : Nat) (ws : List Int) (c : Int) (T : TypeId) (hown : w.ownsRow base 3 1 (.slice (some ⟨b, 0, none⟩) ws.length ws.length) ws.length (ws.map (Value.int .i64))) (hb : b < w.heap.size) : Ar (w.alloc (.cells #[.slice (some ⟨b, 0, none⟩) ws.length ws.length, .int .i64 c] T)) w.heap.size b ws c where
  c0 := by simp
  c1 := by simp
  f1 := by simp
  row := own_eq (own_weaken hown (Nat.zero_le _)) (Below.heap_alloc _ _ _ hb)
  ne := by omega
  lq := by simp
  lg := by simp; omega
theorem words_calls (w : World) (q g : Nat) (ws : List Int) (c : Int) (h : Ar w q g ws c) (hl : ws.length ≤ 1048576) : Calls Try.prog 15 #[.pointer (some ⟨q, 0, none⟩)] w fun e w' => ∃ b, e = .returned (.slice (some ⟨b, 0, none⟩) ws.length ws.length) ∧ w'.ownsRow w.heap.size 3 1 (.slice (some ⟨b, 0, none⟩) ws.length ws.length) ws.length (ws.map (Value.int .i64)) ∧ w.heap.size ≤ b ∧ b < w'.heap.size ∧ Below w.heap.size w w' := by
  have k0 := h.c0
  have k1 : ∀ o, (w.alloc o).cell? ⟨q, 0, none⟩ = _ := fun o => (h.alloc o).c0
  have hmk := print_make (P := Try.prog) 30 3 .i64 8 Try.underlying30 info3 (by decide) ws.length (by omega)
  have HA := Aside0.mk h
  have HL := Aside0.mk hl
  clear h hl
  go_enter Try.func15, Try.ntmps15
  go_wp2_with ((with_reducible refine gate_dst (N := 17) rfl ?_); refine Kd.R_copy (0 : Int) (w0 := w) w.heap.size rfl _ _ 30 30 3 rfl Try.underlying30 (by kernel_rfl) _ (List.replicate ws.length 0) ws _ ws.length ws.length (fun _ => True) rfl rfl (Kd.R_of_own (by rw [List.length_replicate]; exact own_made w w.heap.size 3 .i64 ws.length (Nat.le_refl _) (by have := HL.out; omega)) (fun _ _ => trivial)) (HA.out.alloc _).C ((Below.refl _ _).alloc (Nat.le_refl _) _) (by simp) ?_; intro w1 hR hB hg)
  have e : ws.take (min ws.length (List.replicate ws.length (0 : Int)).length) ++ (List.replicate ws.length (0 : Int)).drop (min ws.length (List.replicate ws.length (0 : Int)).length) = ws := by simp
  rw [e] at hR
  have hown := Kd.own_of_R hR
  go_ret
  exact ⟨_, rfl, hown, Nat.le_refl _, (hown.lt _ rfl).2, hB⟩
theorem words_nil (w : World) : Calls Try.prog 15 #[.pointer none] w fun e w' => e = .returned (.slice none 0 0) ∧ w' = w := by
  go_enter Try.func15, Try.ntmps15
  go_wp2
  go_ret
  exact ⟨rfl, rfl⟩
theorem copy_nil (w : World) : Calls Try.prog 20 #[.pointer none] w fun e w' => e = .returned (.pointer none) ∧ w' = w := by
  go_enter Try.func20, Try.ntmps20
  go_wp2
  go_ret
  exact ⟨rfl, rfl⟩
theorem copy_calls (w : World) (q g : Nat) (ws : List Int) (c : Int) (h : Ar w q g ws c) (hl : ws.length ≤ 1048576) : Calls Try.prog 20 #[.pointer (some ⟨q, 0, none⟩)] w fun e w' => ∃ q2 g2, e = .returned (.pointer (some ⟨q2, 0, none⟩)) ∧ Ar w' q2 g2 ws c ∧ w.heap.size ≤ q2 ∧ w.heap.size ≤ g2 ∧ Below w.heap.size w w' := by
  have k1 := h.c1
  have HA := Aside0.mk h
  have HL := Aside0.mk hl
  clear h hl
  go_enter Try.func20, Try.ntmps20
  go_wp2
  go_region_with (go_at_call 15; refine (words_calls w.drew q g ws c HA.out.drew HL.out).mono ?_; rintro e w1 ⟨b, rfl, hown, hb1, hb2, hB⟩; have hA2 := HA.out.drew.below hB HA.out.lq HA.out.lg; have k2 := hA2.c1)
  all_goals
    go_wp2
    go_ret
    exact ⟨_, _, rfl, ar_box w1 b ws c 53 hown hb2, hB.size, hb1, ((Below.refl w.heap.size w).drew.trans hB).alloc hB.size _⟩

end Go.Proofs.Ytahkfgeaegdbjaa.X

/- callcode.forms and part.of. Conditions: none. -/
import Derived.Test.YtkachkmmjlboeaaDoorXFields
namespace Go.Proofs.YtkachkmmjlboeaaDoor.X
open Go.RowKit Go.Proofs.YtkachkmmjlboeaaDoor.YAll Go.Proofs.YtkachkmmjlboeaaDoorW.PrintWords Go.Proofs.YtkachkmmjlboeaaDoorW.PrintLast Go.Proofs.YtkachkmmjlboeaaDoorW.PrintMore
set_option linter.unusedVariables false
set_option linter.unusedSimpArgs false

/-- The forms: a kind's word and which numbers (0 Addr, 1 Size, 2 Align, 3 Value). -/
def formL : List (List UInt8 × List Nat) := [([109, 97, 108, 108, 111, 99], [1]), ([102, 114, 101, 101], [0]), ([99, 97, 108, 108, 111, 99], [1]), ([114, 101, 97, 108, 108, 111, 99], [0, 1]), ([97, 108, 105, 103, 110, 101, 100], [1, 2]), ([117, 115, 97, 98, 108, 101], [0]), ([102, 108, 117, 115, 104], []), ([116, 114, 105, 109], []), ([101, 120, 105, 116], []), ([115, 116, 97, 116, 115], []), ([108, 111, 97, 100], [0]), ([115, 116, 111, 114, 101], [0, 3])]
def wd (k : Nat) : List UInt8 := (formL.getD k ([], [])).1
def pt (k : Nat) : List Nat := (formL.getD k ([], [])).2
/-- A row of parts. -/
def PtsAt (w : World) (A : Option Addr) (ps : List Nat) : Prop := ps ≠ [] → ∃ b, A = some ⟨b, 0, none⟩ ∧ w.heap[b]? = some (.cells (ps.map fun (p : Nat) => Value.int .i64 (p : Int)).toArray 62)
def FormsV (w : World) (vs : Array Value) : Prop := vs.size = 24 ∧ ∀ k, k < 12 → ∃ A, vs[2 * k]? = some (.string (bs (wd k))) ∧ vs[2 * k + 1]? = some (.slice A (pt k).length (pt k).length) ∧ PtsAt w A (pt k)
theorem size_al (w : World) (o : Obj) : (w.alloc o).heap.size = w.heap.size + 1 := Array.size_push _
theorem blk_newq (w : World) (o : Obj) {q : Nat} (h : q = w.heap.size) : (w.alloc o).heap[q]? = some o := by subst h; exact blk_new w o
theorem wp_store_row {P : Program} {op : Oper} {a : Act} {w : World} {K : Act → World → Prop} {Q : Exit → Act → World → Prop} (ty : TypeId) (x y : Operand) (ho : op.op = .store ty x y)
    (g : Nat) (c c' : Array Value) (hx : a.eval x = .pointer (some ⟨g, 0, none⟩)) (hy : a.eval y = .agg c') (hg : w.heap[g]? = some (.cells c ty))
    (hi : (P.info? ty).map (·.size) = some c'.size) (hs : c.size = c'.size) (h1 : c'.all (·.oneCell') = true) (w0 : World) (hw0 : w0.heap.size ≤ g) (hb : Below w0.heap.size w0 w)
    (F : World → Array Value → Prop) (hF : ∀ W : World, (∀ j, j ≠ g → W.heap[j]? = w.heap[j]?) → F W c')
    (h : ∀ W : World, W.heap[g]? = some (.cells c' ty) → F W c' → Below w0.heap.size w0 W → K (a.put op.dst undef) W) : op.wp P a w K Q := by
  unfold Oper.wp execOp
  have e := run_storeVar_row (P := P) w g ty ty c c' hg hi hs h1
  simp only [ho, hx, hy, Instr.storeAt, Instr.sureAddr, Sem.run_bind, Sem.run_pure, Result.andThen_ok, e]
  exact h _ (setRow_heap w g c c' ty (0, 0) hg) (hF _ (fun j hj => setRow_other w g j c' hj)) (hb.trans ⟨rfl, rfl, rfl, by simp [World.setRow], fun k hk => setRow_other w g k c' (by omega)⟩)
set_option maxRecDepth 100000 in
set_option maxHeartbeats 2000000 in
theorem forms_calls (w : World) : Calls Tryd.prog 26 #[] w fun e w' => ∃ vs, e = .returned (.agg vs) ∧ FormsV w' vs ∧ Below w.heap.size w w' := by
  go_enter Tryd.func26, Tryd.ntmps26
  iterate 75 (first | go_values | go_skip | go_guarded | go_step | go_upon)
  refine wp_store_row 60 (.tmp 0) (.tmp 21) rfl w.heap.size _ _ rfl rfl (by repeat (first | exact blk_new _ _ | refine blk_alloc ?_ _)) (by kernel_rfl) (by kernel_rfl) (by kernel_rfl) w (Nat.le_refl _) (by repeat (first | exact Below.refl _ _ | refine ballo ?_ _)) FormsV ?hF ?_
  case hF =>
    intro W HO
    have G1 : W.heap[w.heap.size + 1]? = some (.cells #[Value.int .i64 1] 62) := (HO _ (by omega)).trans (by refine blk_alloc ?_ _; refine blk_alloc ?_ _; refine blk_alloc ?_ _; refine blk_alloc ?_ _; refine blk_alloc ?_ _; refine blk_alloc ?_ _; refine blk_alloc ?_ _; exact blk_newq _ _ (by simp only [size_al]))
    have G2 : W.heap[w.heap.size + 1 + 1]? = some (.cells #[Value.int .i64 0] 62) := (HO _ (by omega)).trans (by refine blk_alloc ?_ _; refine blk_alloc ?_ _; refine blk_alloc ?_ _; refine blk_alloc ?_ _; refine blk_alloc ?_ _; refine blk_alloc ?_ _; exact blk_newq _ _ (by simp only [size_al]))
    have G3 : W.heap[w.heap.size + 1 + 1 + 1]? = some (.cells #[Value.int .i64 1] 62) := (HO _ (by omega)).trans (by refine blk_alloc ?_ _; refine blk_alloc ?_ _; refine blk_alloc ?_ _; refine blk_alloc ?_ _; refine blk_alloc ?_ _; exact blk_newq _ _ (by simp only [size_al]))
    have G4 : W.heap[w.heap.size + 1 + 1 + 1 + 1]? = some (.cells #[Value.int .i64 0, Value.int .i64 1] 62) := (HO _ (by omega)).trans (by refine blk_alloc ?_ _; refine blk_alloc ?_ _; refine blk_alloc ?_ _; refine blk_alloc ?_ _; exact blk_newq _ _ (by simp only [size_al]))
    have G5 : W.heap[w.heap.size + 1 + 1 + 1 + 1 + 1]? = some (.cells #[Value.int .i64 1, Value.int .i64 2] 62) := (HO _ (by omega)).trans (by refine blk_alloc ?_ _; refine blk_alloc ?_ _; refine blk_alloc ?_ _; exact blk_newq _ _ (by simp only [size_al]))
    have G6 : W.heap[w.heap.size + 1 + 1 + 1 + 1 + 1 + 1]? = some (.cells #[Value.int .i64 0] 62) := (HO _ (by omega)).trans (by refine blk_alloc ?_ _; refine blk_alloc ?_ _; exact blk_newq _ _ (by simp only [size_al]))
    have G7 : W.heap[w.heap.size + 1 + 1 + 1 + 1 + 1 + 1 + 1]? = some (.cells #[Value.int .i64 0] 62) := (HO _ (by omega)).trans (by refine blk_alloc ?_ _; exact blk_newq _ _ (by simp only [size_al]))
    have G8 : W.heap[w.heap.size + 1 + 1 + 1 + 1 + 1 + 1 + 1 + 1]? = some (.cells #[Value.int .i64 0, Value.int .i64 3] 62) := (HO _ (by omega)).trans (by exact blk_newq _ _ (by simp only [size_al]))
    refine ⟨rfl, fun k hk => ?_⟩
    have hk2 : k = 0 ∨ k = 1 ∨ k = 2 ∨ k = 3 ∨ k = 4 ∨ k = 5 ∨ k = 6 ∨ k = 7 ∨ k = 8 ∨ k = 9 ∨ k = 10 ∨ k = 11 := by omega
    rcases hk2 with rfl | rfl | rfl | rfl | rfl | rfl | rfl | rfl | rfl | rfl | rfl | rfl
    · exact ⟨some ⟨w.heap.size + 1, 0, none⟩, rfl, rfl, fun _ => ⟨w.heap.size + 1, rfl, G1⟩⟩
    · exact ⟨some ⟨w.heap.size + 1 + 1, 0, none⟩, rfl, rfl, fun _ => ⟨w.heap.size + 1 + 1, rfl, G2⟩⟩
    · exact ⟨some ⟨w.heap.size + 1 + 1 + 1, 0, none⟩, rfl, rfl, fun _ => ⟨w.heap.size + 1 + 1 + 1, rfl, G3⟩⟩
    · exact ⟨some ⟨w.heap.size + 1 + 1 + 1 + 1, 0, none⟩, rfl, rfl, fun _ => ⟨w.heap.size + 1 + 1 + 1 + 1, rfl, G4⟩⟩
    · exact ⟨some ⟨w.heap.size + 1 + 1 + 1 + 1 + 1, 0, none⟩, rfl, rfl, fun _ => ⟨w.heap.size + 1 + 1 + 1 + 1 + 1, rfl, G5⟩⟩
    · exact ⟨some ⟨w.heap.size + 1 + 1 + 1 + 1 + 1 + 1, 0, none⟩, rfl, rfl, fun _ => ⟨w.heap.size + 1 + 1 + 1 + 1 + 1 + 1, rfl, G6⟩⟩
    · exact ⟨none, rfl, rfl, fun h => (h rfl).elim⟩
    · exact ⟨none, rfl, rfl, fun h => (h rfl).elim⟩
    · exact ⟨none, rfl, rfl, fun h => (h rfl).elim⟩
    · exact ⟨none, rfl, rfl, fun h => (h rfl).elim⟩
    · exact ⟨some ⟨w.heap.size + 1 + 1 + 1 + 1 + 1 + 1 + 1, 0, none⟩, rfl, rfl, fun _ => ⟨w.heap.size + 1 + 1 + 1 + 1 + 1 + 1 + 1, rfl, G7⟩⟩
    · exact ⟨some ⟨w.heap.size + 1 + 1 + 1 + 1 + 1 + 1 + 1 + 1, 0, none⟩, rfl, rfl, fun _ => ⟨w.heap.size + 1 + 1 + 1 + 1 + 1 + 1 + 1 + 1, rfl, G8⟩⟩

  intro W HQ HF HB
  have HQ2 := Aside0.mk HQ
  have HF2 := Aside0.mk HF
  clear HQ HF
  go_wp2
  (try simp only [Exit.inBlock, Exit.then])
  refine bodyPost_ret (results_single (r := .cell 0 60) rfl (.cell w.heap.size _ _ (0, 0) (.array 12 59) rfl HQ2.out Tryd.underlying60 rfl (by kernel_rfl) .nil)) rfl ?_
  exact ⟨_, rfl, HF2.out, HB⟩
end Go.Proofs.YtkachkmmjlboeaaDoor.X

/- A world that lays the tables; MaxLen's cell; a struct of numbers opened. Conditions: none. -/
import Derived.Test.YtdaagoagfenadaaDoorXScrF
import Derived.Test.YtdaagoagfenadaaDoorRows
import Derived.Shelf.Vars
import Derived.LaidLaws
import Derived.WideShapes
namespace Go.Proofs.YtdaagoagfenadaaDoor.X
open Go.RowKit
open Go
set_option linter.unusedVariables false
set_option linter.unusedSimpArgs false
/-- The table of first bytes, cell by cell. -/
noncomputable def firstCells : Array Value := (Go.Pinned.utf8FirstZ.map (fun n : Nat => Value.int .u8 (n : Int))).toArray
def accCells : Array Value := #[.int .u8 128, .int .u8 191, .int .u8 160, .int .u8 191, .int .u8 128, .int .u8 159, .int .u8 144, .int .u8 191, .int .u8 128, .int .u8 143, .int .u8 0, .int .u8 0, .int .u8 0, .int .u8 0, .int .u8 0, .int .u8 0, .int .u8 0, .int .u8 0, .int .u8 0, .int .u8 0, .int .u8 0, .int .u8 0, .int .u8 0, .int .u8 0, .int .u8 0, .int .u8 0, .int .u8 0, .int .u8 0, .int .u8 0, .int .u8 0, .int .u8 0, .int .u8 0]
noncomputable def putFirst : Obj → Obj
  | .cells _ t frozen => .cells firstCells t frozen
  | o => o
noncomputable def putAcc : Obj → Obj
  | .cells _ t frozen => .cells accCells t frozen
  | o => o
noncomputable def laidWorld (os : Os) : World :=
  { World.holding Tryd.prog os ⟨#[], #[], []⟩ with heap := ((World.holding Tryd.prog os ⟨#[], #[], []⟩).heap.modify 1 putFirst).modify 2 putAcc }
set_option maxRecDepth 100000 in
theorem laid_met (os : Os) (args : Array Value) : laidMet Tryd.prog Rows.scriptLinesRow.laid ((laidWorld os).forCall (fun _ _ => 0) ⟨#[], args, []⟩).memory :=
  laidMet_of_run' 8 (by kernel_rfl) (by kernel_rfl)
theorem mx_of {W : World} (h : W.ShapedOpen Tryd.prog) : Mx W := cell_of_shapedOpen_int (g := 0) (t := 3) (zero := #[.int .i64 0]) h (of_decide_eq_true (by kernel_rfl)) (by kernel_rfl) rfl (by kernel_rfl) (by kernel_rfl) Tryd.underlying3
theorem in64_wf {a : Int} (h : (Lit.int .i64 a).wf = true) : In64 a := by
  simp only [Lit.wf, Bool.and_eq_true, decide_eq_true_eq] at h
  exact h
theorem bs_bytes (y : List UInt8) : (bs y).data.toList = y := rfl
def isI64 (o : Option TypeDesc) : Bool := match o with
  | some (.int k) => decide (k = .i64)
  | _ => false
theorem isI64_eq {o : Option TypeDesc} (h : isI64 o = true) : o = some (.int .i64) := by
  unfold isI64 at h
  split at h
  · rw [of_decide_eq_true h]
  · cases h
/-- A struct of whole numbers, opened. -/
theorem wide_ints {P : Program} {W : World} {r : Reach} {base t n : Nat} {fs : Array Field} {v : Value} (ht : P.underlying t = some (.struct fs)) (hC : P.cellsOf t = n)
    (hts : ((P.cellTypes P.depth t).map fun ts => decide (ts.length = n ∧ 0 < n) && ts.all fun u => isI64 (P.underlying u)) = some true) (h : Value.okWide P W r base t v) :
    ∃ l : List Int, v = .agg (l.map (Value.int .i64)).toArray ∧ l.length = n ∧ ∀ x ∈ l, In64 x := by
  unfold Value.okWide at h
  rw [ht] at h
  obtain ⟨cs, rfl, hsz, ts, hcs, _, hall⟩ := h
  rw [hcs, Option.map_some] at hts
  have hts := Option.some.inj hts
  rw [Bool.and_eq_true, decide_eq_true_eq, List.all_eq_true] at hts
  obtain ⟨⟨hn, hn0⟩, hu⟩ := hts
  have hone : ∀ i (hi : i < cs.size), ∃ x : Int, cs[i] = .int .i64 x ∧ In64 x := by
    intro i hi
    obtain ⟨u, h1, h2⟩ := hall i cs[i] (Array.getElem?_eq_getElem hi)
    have hm := isI64_eq (hu u (List.mem_of_getElem? h1))
    unfold Cell.okWide at h2
    rw [hm] at h2
    generalize cs[i] = c at h2
    cases c <;> simp only [Cell.ok, hm] at h2
    all_goals first
      | (obtain ⟨rfl, h3⟩ := h2; exact ⟨_, rfl, h3⟩)
      | exact h2.elim
  have key : ∀ l : List Value, (∀ c ∈ l, ∃ x : Int, c = .int .i64 x ∧ In64 x) → ∃ m : List Int, l = m.map (Value.int .i64) ∧ ∀ x ∈ m, In64 x := by
    intro l
    induction l with
    | nil => intro _; exact ⟨[], rfl, fun x hx => by cases hx⟩
    | cons c l ih =>
      intro hc
      obtain ⟨x, rfl, hx⟩ := hc c (List.mem_cons_self ..)
      obtain ⟨m, rfl, hm⟩ := ih (fun c hc' => hc c (List.mem_cons_of_mem _ hc'))
      refine ⟨x :: m, rfl, fun y hy => ?_⟩
      rcases List.mem_cons.1 hy with rfl | hy
      · exact hx
      · exact hm y hy
  obtain ⟨m, hm, hmI⟩ := key cs.toList (fun c hc => by
    obtain ⟨i, hi, rfl⟩ := List.getElem_of_mem hc
    exact hone i (by simpa using hi))
  refine ⟨m, ?_, ?_, hmI⟩
  · rw [← hm]
  · have := congrArg List.length hm
    rw [List.length_map] at this
    rw [← this, Array.length_toList, hsz, hC]
end Go.Proofs.YtdaagoagfenadaaDoor.X

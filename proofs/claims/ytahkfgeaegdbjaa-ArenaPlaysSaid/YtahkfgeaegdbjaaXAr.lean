/- What an arena in memory is: a pointer to its words and its count, apart from all other memory; and what keeps it. Conditions: none. -/
import Derived.Test.YtahkfgeaegdbjaaProg
import Derived.Below
import Derived.Deep.Draws
import Derived.OwnWalk
import Derived.Tactics
import Derived.WalkKit
import Derived.WalkLawsBesides
import Derived.WalkSpells
import Derived.KernelRfl
import Derived.RowKit3
import Derived.LoopTactic
import Derived.Outline
import Derived.OneCell
import Derived.Deep.LoopGhost
import Derived.Deep.QuietTactic
import Derived.BigQuiet
import Derived.WideLaws
import Derived.Laws.Rows
import Derived.RowKit
import Derived.Test.YtahkfgeaegdbjaaWWords
namespace Go.Proofs.Ytahkfgeaegdbjaa.X
open Go.RowKit Go.Proofs.YtahkfgeaegdbjaaW.PrintWords
set_option linter.unusedVariables false
set_option linter.unusedSimpArgs false

/-- At block q lie the words' slice and the count; the words, ws, lie at block g. -/
structure Ar (w : World) (q g : Nat) (ws : List Int) (c : Int) : Prop where
  c0 : w.cell? ⟨q, 0, none⟩ = some (.slice (some ⟨g, 0, none⟩) ws.length ws.length)
  c1 : w.cell? ⟨q, 1, none⟩ = some (.int .i64 c)
  f1 : w.frozen? ⟨q, 1, none⟩ = false
  row : w.ownsRow 0 3 1 (.slice (some ⟨g, 0, none⟩) ws.length ws.length) ws.length (ws.map (Value.int .i64))
  ne : q ≠ g
  lq : q < w.heap.size
  lg : g < w.heap.size
/-- All but the blocks q and g is as it was. -/
structure Keep (w w' : World) (q g : Nat) : Prop where
  os : w'.os = w.os
  tape : w'.tape = w.tape
  output : w'.output = w.output
  size : w.heap.size ≤ w'.heap.size
  block : ∀ k, k < w.heap.size → k ≠ q → k ≠ g → w'.heap[k]? = w.heap[k]?

theorem Keep.refl (w : World) (q g : Nat) : Keep w w q g := ⟨rfl, rfl, rfl, Nat.le_refl _, fun _ _ _ _ => rfl⟩
theorem Keep.trans {a b c : World} {q g : Nat} (h : Keep a b q g) (k : Keep b c q g) : Keep a c q g :=
  ⟨k.os.trans h.os, k.tape.trans h.tape, k.output.trans h.output, Nat.le_trans h.size k.size, fun i hi h1 h2 => (k.block i (Nat.lt_of_lt_of_le hi h.size) h1 h2).trans (h.block i hi h1 h2)⟩
theorem Keep.of_below {w w' : World} {q g : Nat} (h : Below w.heap.size w w') : Keep w w' q g := ⟨h.os, h.tape, h.output, h.size, fun k hk _ _ => h.block k hk⟩
theorem Keep.set {w : World} {q g b i : Nat} (hb : b = q ∨ b = g) (v : Value) : Keep w (w.setCell ⟨b, i, none⟩ v) q g := by
  have h := (Below.refl 0 w).setCell (p := ⟨b, i, none⟩) (Nat.zero_le _) v
  refine ⟨h.os, h.tape, h.output, h.size, fun k hk h1 h2 => Below.heap_setCell w _ v k ?_⟩
  rcases hb with rfl | rfl
  · exact h1
  · exact h2
theorem Keep.below {B : Nat} {a w w' : World} {q g : Nat} (h : Below B a w) (k : Keep w w' q g) (hB : B ≤ w.heap.size) (hq : B ≤ q) (hg : B ≤ g) : Below B a w' :=
  ⟨k.os.trans h.os, k.tape.trans h.tape, k.output.trans h.output, Nat.le_trans h.size k.size, fun i hi => (k.block i (by omega) (by omega) (by omega)).trans (h.block i hi)⟩
theorem own_eq {w w' : World} {base g n cap : Nat} {e : TypeId} {size : Nat} {xs : List Value} (h : w.ownsRow base e size (.slice (some ⟨g, 0, none⟩) n cap) n xs) (hh : w'.heap[g]? = w.heap[g]?) : w'.ownsRow base e size (.slice (some ⟨g, 0, none⟩) n cap) n xs := by
  refine ⟨h.1, ?_⟩
  rcases h.2 with ⟨hv, _⟩ | ⟨g', cap', cur, hv, hb, hg, h1, h2, h3, h4⟩
  · cases hv
  · refine .inr ⟨g', cap', cur, hv, hb, ?_, h1, h2, h3, h4⟩
    cases hv
    rw [hh, hg]
theorem Ar.eq {w w' : World} {q g : Nat} {ws : List Int} {c : Int} (h : Ar w q g ws c) (hs : w.heap.size ≤ w'.heap.size) (hq : w'.heap[q]? = w.heap[q]?) (hg : w'.heap[g]? = w.heap[g]?) : Ar w' q g ws c where
  c0 := (World.cell?_of_block (w := w) hq).trans h.c0
  c1 := (World.cell?_of_block (w := w) hq).trans h.c1
  f1 := (World.frozen?_of_block (w := w) hq).trans h.f1
  row := own_eq h.row hg
  ne := h.ne
  lq := Nat.lt_of_lt_of_le h.lq hs
  lg := Nat.lt_of_lt_of_le h.lg hs
theorem Ar.below {B : Nat} {w w' : World} {q g : Nat} {ws : List Int} {c : Int} (h : Ar w q g ws c) (hb : Below B w w') (hq : q < B) (hg : g < B) : Ar w' q g ws c := h.eq hb.size (hb.block q hq) (hb.block g hg)
theorem Ar.keep {w w' : World} {q g q2 g2 : Nat} {ws : List Int} {c : Int} (h : Ar w q g ws c) (hk : Keep w w' q2 g2) (h1 : q ≠ q2) (h2 : q ≠ g2) (h3 : g ≠ q2) (h4 : g ≠ g2) : Ar w' q g ws c := h.eq hk.size (hk.block q h.lq h1 h2) (hk.block g h.lg h3 h4)
theorem Ar.alloc {w : World} {q g : Nat} {ws : List Int} {c : Int} (h : Ar w q g ws c) (o : Obj) : Ar (w.alloc o) q g ws c :=
  h.below ((Below.refl _ w).alloc (Nat.le_refl _) o) h.lq h.lg
theorem Ar.drew {w : World} {q g : Nat} {ws : List Int} {c : Int} (h : Ar w q g ws c) : Ar w.drew q g ws c := h.eq (Nat.le_refl _) rfl rfl
theorem Ar.drewN {w : World} {q g : Nat} {ws : List Int} {c : Int} (h : Ar w q g ws c) (n : Nat) : Ar (w.drewN n) q g ws c := h.eq (Nat.le_refl _) rfl rfl
theorem size_setCell (w : World) (p : Addr) (v : Value) : (w.setCell p v).heap.size = w.heap.size := by simp [World.setCell]
theorem Ar.count {w : World} {q g : Nat} {ws : List Int} {c : Int} (h : Ar w q g ws c) (d : Int) : Ar (w.setCell ⟨q, 1, none⟩ (.int .i64 d)) q g ws d where
  c0 := (World.cell?_setCell_other _ _ _ _ (by simp)).trans h.c0
  c1 := World.cell?_setCell_same _ _ _ h.c1
  f1 := by simpa using h.f1
  row := own_eq h.row (Below.heap_setCell w _ _ g h.ne.symm)
  ne := h.ne
  lq := by rw [size_setCell]; exact h.lq
  lg := by rw [size_setCell]; exact h.lg
theorem Ar.put {w : World} {q g : Nat} {ws : List Int} {c : Int} (h : Ar w q g ws c) (j : Nat) (x : Int) : Ar (w.setCell ⟨g, j, none⟩ (.int .i64 x)) q g (ws.set j x) c where
  c0 := by rw [List.length_set]; exact (World.cell?_of_block (w := w) (Below.heap_setCell w _ _ q h.ne)).trans h.c0
  c1 := (World.cell?_of_block (w := w) (Below.heap_setCell w _ _ q h.ne)).trans h.c1
  f1 := (World.frozen?_of_block (w := w) (Below.heap_setCell w _ _ q h.ne)).trans h.f1
  row := by
    rw [List.length_set, List.map_set]
    exact (h.row.stored j (.int .i64 x)).1
  ne := h.ne
  lq := by rw [size_setCell]; exact h.lq
  lg := by rw [size_setCell]; exact h.lg
theorem Ar.at_ {w : World} {q g : Nat} {ws : List Int} {c : Int} (h : Ar w q g ws c) (a : Int) (h0 : 0 ≤ a) (h1 : a < ws.length) : w.cell? ⟨g, a.toNat, none⟩ = some (.int .i64 (rd ws a)) ∧ w.frozen? ⟨g, a.toNat, none⟩ = false := by
  refine ⟨?_, h.row.frozenAt _⟩
  have h2 := h.row.cellAt a.toNat (by omega)
  rw [h2, List.getElem?_map, List.getElem?_eq_getElem (by omega), Option.map_some]
  simp [rd, List.getD, show a.toNat < ws.length by omega]

end Go.Proofs.Ytahkfgeaegdbjaa.X

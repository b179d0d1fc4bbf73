/- An argument that is a slice of entries, or a question, opened. Conditions: none. -/
import Derived.Test.YtlockojfinmddaaXLives
import Derived.Lib.SmallJoins
import Derived.Deep.Slices
import Derived.Deep.Fields
namespace Go.Proofs.Ytlockojfinmddaa.X
open Go.RowKit Go.Proofs.Ytlockojfinmddaa.PShrinkScripts Go.Proofs.YtlockojfinmddaaW.PrintWords Go.Proofs.YtlockojfinmddaaW.PrintLast Go.Proofs.YtlockojfinmddaaW.PrintMore
open Go.ChangeShapes Go.WideShapes Go.Deep
set_option linter.unusedVariables false
set_option linter.unusedSimpArgs false
section
variable {H : Type} {ec : TypeId × Value → H} {W : World} {spare : Nat → Bool} {held : Bool}
theorem open37 {n : Nat} {cs : List Value} {y : DataW H × List MemPlace} (h : DataW.trod ec Try.prog W 0 spare held n 37 cs = some y) : ∃ x : S37, cs = [.int .i64 x.f0, .int .i64 x.f1, .int .i64 x.f2, .int .i64 x.f3, .int .i64 x.f4] := by
  obtain ⟨xs, m, _, _, hl, hlen, hf⟩ := DataW.trod_struct Try.underlying37 h
  rw [show Try.prog.cellsOf 37 = 5 by kernel_rfl] at hl
  have h3 : Try.prog.cellsOf 3 = 1 := by kernel_rfl
  match cs, hl, xs, hlen with
  | [c0, c1, c2, c3, c4], _, [y0, y1, y2, y3, y4], _ =>
    have k0 : DataW.trod ec Try.prog W 0 spare held m 3 [c0] = some y0 := by simpa [h3] using hf 0 _ rfl
    have k1 : DataW.trod ec Try.prog W 0 spare held m 3 [c1] = some y1 := by simpa [h3] using hf 1 _ rfl
    have k2 : DataW.trod ec Try.prog W 0 spare held m 3 [c2] = some y2 := by simpa [h3] using hf 2 _ rfl
    have k3 : DataW.trod ec Try.prog W 0 spare held m 3 [c3] = some y3 := by simpa [h3] using hf 3 _ rfl
    have k4 : DataW.trod ec Try.prog W 0 spare held m 3 [c4] = some y4 := by simpa [h3] using hf 4 _ rfl
    obtain ⟨a0, e0, _, _⟩ := DataW.trod_int (k := .i64) (by kernel_rfl) k0
    obtain ⟨a1, e1, _, _⟩ := DataW.trod_int (k := .i64) (by kernel_rfl) k1
    obtain ⟨a2, e2, _, _⟩ := DataW.trod_int (k := .i64) (by kernel_rfl) k2
    obtain ⟨a3, e3, _, _⟩ := DataW.trod_int (k := .i64) (by kernel_rfl) k3
    obtain ⟨a4, e4, _, _⟩ := DataW.trod_int (k := .i64) (by kernel_rfl) k4
    simp only [List.cons.injEq, and_true] at e0 e1 e2 e3 e4
    subst e0 e1 e2 e3 e4
    exact ⟨⟨a0, a1, a2, a3, a4⟩, rfl⟩
theorem open39 {n : Nat} {cs : List Value} {y : DataW H × List MemPlace} (h : DataW.trod ec Try.prog W 0 spare held n 39 cs = some y) : ∃ x : S39, cs = enc x := by
  obtain ⟨xs, m, _, _, hl, hlen, hf⟩ := DataW.trod_struct Try.underlying39 h
  rw [show Try.prog.cellsOf 39 = 8 by kernel_rfl] at hl
  have h3 : Try.prog.cellsOf 3 = 1 := by kernel_rfl
  have h37 : Try.prog.cellsOf 37 = 5 := by kernel_rfl
  match cs, hl, xs, hlen with
  | [c0, c1, c2, c3, c4, c5, c6, c7], _, [y0, y1, y2, y3], _ =>
    have k0 : DataW.trod ec Try.prog W 0 spare held m 3 [c0] = some y0 := by simpa [h3] using hf 0 _ rfl
    have k1 : DataW.trod ec Try.prog W 0 spare held m 3 [c1] = some y1 := by simpa [h3] using hf 1 _ rfl
    have k2 : DataW.trod ec Try.prog W 0 spare held m 3 [c2] = some y2 := by simpa [h3] using hf 2 _ rfl
    have k3 : DataW.trod ec Try.prog W 0 spare held m 37 [c3, c4, c5, c6, c7] = some y3 := by simpa [h37] using hf 3 _ rfl
    obtain ⟨a0, e0, _, _⟩ := DataW.trod_int (k := .i64) (by kernel_rfl) k0
    obtain ⟨a1, e1, _, _⟩ := DataW.trod_int (k := .i64) (by kernel_rfl) k1
    obtain ⟨a2, e2, _, _⟩ := DataW.trod_int (k := .i64) (by kernel_rfl) k2
    obtain ⟨x, e3⟩ := open37 k3
    simp only [List.cons.injEq, and_true] at e0 e1 e2 e3
    obtain ⟨q0, q1, q2, q3, q4⟩ := e3
    subst e0 e1 e2 q0 q1 q2 q3 q4
    exact ⟨⟨a0, a1, a2, x⟩, rfl⟩
/-- An argument that is a slice of entries. -/
theorem open_entries {n : Nat} {A : Option Addr} {len cap : Nat} {y : DataW H × List MemPlace} (h : DataW.trod ec Try.prog W 0 spare held n 25 [.slice A len cap] = some y) : len ≤ cap ∧ ∃ l : List S39, l.length = len ∧ Kd.C k39 W A l.length l := by
  rcases open_slice Try.underlying25 h with ⟨hcs, _⟩ | ⟨a, l', c', m, k, D, Pl, hcs, _, hl, hm, hmm, _, hi⟩
  · simp only [List.cons.injEq, Value.slice.injEq, and_true] at hcs
    obtain ⟨rfl, rfl, rfl⟩ := hcs
    exact ⟨Nat.le_refl _, [], rfl, Kd.C_nil _ _⟩
  · simp only [List.cons.injEq, Value.slice.injEq, and_true] at hcs
    obtain ⟨rfl, rfl, rfl⟩ := hcs
    refine ⟨hl, ?_⟩
    rw [show Try.prog.cellsOf 39 = 8 by kernel_rfl] at hi
    have hx : ∀ i, ∃ x : S39, i < len → ∀ j u, (enc x)[j]? = some u → W.cell? (a.add (i * 8 + j)) = some u := by
      intro i
      by_cases hlt : i < len
      · obtain ⟨cs', hc, ht⟩ := hi i (by rw [hmm]; split <;> omega)
        obtain ⟨x, e⟩ := open39 ht
        refine ⟨x, fun _ j u hu => ?_⟩
        obtain ⟨_, hcl, hat⟩ := World.cells?_some hc
        have hj : j < 8 := (List.getElem?_eq_some_iff.1 hu).1
        have h2 := hat j hj
        rw [e, hu] at h2
        rw [← Go.Deep.add_add]
        exact h2
      · exact ⟨z39, fun h => absurd h hlt⟩
    obtain ⟨f, hf⟩ := Classical.axiomOfChoice hx
    have hlen : ((List.range len).map f).length = len := by simp
    refine ⟨(List.range len).map f, hlen, ?_⟩
    rw [hlen]
    refine ⟨hlen, by unfold maxLen at hm; omega, fun _ => ⟨a, rfl, fun j p hj => ?_⟩⟩
    have hj2 : j < len := by have := (List.getElem?_eq_some_iff.1 hj).1; rw [hlen] at this; exact this
    have hp : p = f j := by
      rw [List.getElem?_map, List.getElem?_range hj2] at hj
      exact (Option.some.inj hj).symm
    subst hp
    exact ⟨enc (f j), rfl, k39_mk W (f j), fun i u hu => hf j hj2 i u hu⟩
end
end Go.Proofs.Ytlockojfinmddaa.X

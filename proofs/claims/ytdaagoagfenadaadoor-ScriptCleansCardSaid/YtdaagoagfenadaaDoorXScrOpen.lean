/- An argument that is a slice of entries, opened. Conditions: none. -/
import Derived.Test.YtdaagoagfenadaaDoorXScrF
import Derived.Test.YtdaagoagfenadaaDoorXCard
import Derived.Lib.SmallJoins
import Derived.Deep.Slices
import Derived.Deep.Fields
namespace Go.Proofs.YtdaagoagfenadaaDoor.X
open Go.RowKit Go.Proofs.YtdaagoagfenadaaDoor.YTw Go.Proofs.YtdaagoagfenadaaDoorW.PrintWords Go.Proofs.YtdaagoagfenadaaDoorW.PrintLast Go.Proofs.YtdaagoagfenadaaDoorW.PrintMore
open Go.ChangeShapes Go.WideShapes Go.Deep
set_option linter.unusedVariables false
set_option linter.unusedSimpArgs false
def encS (x : S25) : List Value := [.int .i64 x.f0, .int .i64 x.f1, .int .i64 x.f2, .int .i64 x.f3.f0, .int .i64 x.f3.f1, .int .i64 x.f3.f2, .int .i64 x.f3.f3, .int .i64 x.f3.f4]
section
variable {H : Type} {ec : TypeId × Value → H} {W : World} {spare : Nat → Bool} {held : Bool}
set_option maxRecDepth 100000 in
theorem open23 {n : Nat} {cs : List Value} {y : DataW H × List MemPlace} (h : DataW.trod ec Tryd.prog W 0 spare held n 23 cs = some y) : ∃ x : S23, cs = [.int .i64 x.f0, .int .i64 x.f1, .int .i64 x.f2, .int .i64 x.f3, .int .i64 x.f4] ∧ ∀ z ∈ [x.f0, x.f1, x.f2, x.f3, x.f4], In64 z := by
  obtain ⟨xs, m, _, _, hl, hlen, hf⟩ := DataW.trod_struct Tryd.underlying23 h
  rw [show Tryd.prog.cellsOf 23 = 5 by kernel_rfl] at hl
  have h3 : Tryd.prog.cellsOf 3 = 1 := by kernel_rfl
  match cs, hl, xs, hlen with
  | [c0, c1, c2, c3, c4], _, [y0, y1, y2, y3, y4], _ =>
    have k0 : DataW.trod ec Tryd.prog W 0 spare held m 3 [c0] = some y0 := by simpa [h3] using hf 0 _ rfl
    have k1 : DataW.trod ec Tryd.prog W 0 spare held m 3 [c1] = some y1 := by simpa [h3] using hf 1 _ rfl
    have k2 : DataW.trod ec Tryd.prog W 0 spare held m 3 [c2] = some y2 := by simpa [h3] using hf 2 _ rfl
    have k3 : DataW.trod ec Tryd.prog W 0 spare held m 3 [c3] = some y3 := by simpa [h3] using hf 3 _ rfl
    have k4 : DataW.trod ec Tryd.prog W 0 spare held m 3 [c4] = some y4 := by simpa [h3] using hf 4 _ rfl
    obtain ⟨a0, e0, _, w0⟩ := DataW.trod_int (k := .i64) (by kernel_rfl) k0
    obtain ⟨a1, e1, _, w1⟩ := DataW.trod_int (k := .i64) (by kernel_rfl) k1
    obtain ⟨a2, e2, _, w2⟩ := DataW.trod_int (k := .i64) (by kernel_rfl) k2
    obtain ⟨a3, e3, _, w3⟩ := DataW.trod_int (k := .i64) (by kernel_rfl) k3
    obtain ⟨a4, e4, _, w4⟩ := DataW.trod_int (k := .i64) (by kernel_rfl) k4
    simp only [List.cons.injEq, and_true] at e0 e1 e2 e3 e4
    subst e0 e1 e2 e3 e4
    refine ⟨⟨a0, a1, a2, a3, a4⟩, rfl, fun z hz => ?_⟩
    simp only [List.mem_cons, List.not_mem_nil, or_false] at hz
    rcases hz with rfl | rfl | rfl | rfl | rfl
    · exact in64_wf w0
    · exact in64_wf w1
    · exact in64_wf w2
    · exact in64_wf w3
    · exact in64_wf w4
set_option maxRecDepth 100000 in
theorem open25 {n : Nat} {cs : List Value} {y : DataW H × List MemPlace} (h : DataW.trod ec Tryd.prog W 0 spare held n 25 cs = some y) : ∃ x : S25, cs = encS x ∧ inS x := by
  obtain ⟨xs, m, _, _, hl, hlen, hf⟩ := DataW.trod_struct Tryd.underlying25 h
  rw [show Tryd.prog.cellsOf 25 = 8 by kernel_rfl] at hl
  have h3 : Tryd.prog.cellsOf 3 = 1 := by kernel_rfl
  have h37 : Tryd.prog.cellsOf 23 = 5 := by kernel_rfl
  match cs, hl, xs, hlen with
  | [c0, c1, c2, c3, c4, c5, c6, c7], _, [y0, y1, y2, y3], _ =>
    have k0 : DataW.trod ec Tryd.prog W 0 spare held m 3 [c0] = some y0 := by simpa [h3] using hf 0 _ rfl
    have k1 : DataW.trod ec Tryd.prog W 0 spare held m 3 [c1] = some y1 := by simpa [h3] using hf 1 _ rfl
    have k2 : DataW.trod ec Tryd.prog W 0 spare held m 3 [c2] = some y2 := by simpa [h3] using hf 2 _ rfl
    have k3 : DataW.trod ec Tryd.prog W 0 spare held m 23 [c3, c4, c5, c6, c7] = some y3 := by simpa [h37] using hf 3 _ rfl
    obtain ⟨a0, e0, _, w0⟩ := DataW.trod_int (k := .i64) (by kernel_rfl) k0
    obtain ⟨a1, e1, _, w1⟩ := DataW.trod_int (k := .i64) (by kernel_rfl) k1
    obtain ⟨a2, e2, _, w2⟩ := DataW.trod_int (k := .i64) (by kernel_rfl) k2
    obtain ⟨x, e3, w3⟩ := open23 k3
    simp only [List.cons.injEq, and_true] at e0 e1 e2 e3
    obtain ⟨q0, q1, q2, q3, q4⟩ := e3
    subst e0 e1 e2 q0 q1 q2 q3 q4
    refine ⟨⟨a0, a1, a2, x⟩, rfl, fun z hz => ?_⟩
    have hz2 : z ∈ a0 :: a1 :: a2 :: [x.f0, x.f1, x.f2, x.f3, x.f4] := hz
    rcases List.mem_cons.1 hz2 with rfl | hz2
    · exact in64_wf w0
    · rcases List.mem_cons.1 hz2 with rfl | hz2
      · exact in64_wf w1
      · rcases List.mem_cons.1 hz2 with rfl | hz2
        · exact in64_wf w2
        · exact w3 z hz2
/-- An argument that is a slice of entries. -/
theorem open_entries {n : Nat} {A : Option Addr} {len cap : Nat} {y : DataW H × List MemPlace} (h : DataW.trod ec Tryd.prog W 0 spare held n 37 [.slice A len cap] = some y) : len ≤ cap ∧ ∃ l : List S25, l.length = len ∧ Kd.C k25 W A l.length l ∧ ∀ x ∈ l, inS x := by
  rcases open_slice Tryd.underlying37 h with ⟨hcs, _⟩ | ⟨a, l', c', m, k, D, Pl, hcs, _, hl, hm, hmm, _, hi⟩
  · simp only [List.cons.injEq, Value.slice.injEq, and_true] at hcs
    obtain ⟨rfl, rfl, rfl⟩ := hcs
    exact ⟨Nat.le_refl _, [], rfl, Kd.C_nil _ _, fun x hx => by cases hx⟩
  · simp only [List.cons.injEq, Value.slice.injEq, and_true] at hcs
    obtain ⟨rfl, rfl, rfl⟩ := hcs
    refine ⟨hl, ?_⟩
    rw [show Tryd.prog.cellsOf 25 = 8 by kernel_rfl] at hi
    have hx : ∀ i, ∃ x : S25, inS x ∧ (i < len → ∀ j u, (encS x)[j]? = some u → W.cell? (a.add (i * 8 + j)) = some u) := by
      intro i
      by_cases hlt : i < len
      · obtain ⟨cs', hc, ht⟩ := hi i (by rw [hmm]; split <;> omega)
        obtain ⟨x, e, w⟩ := open25 ht
        refine ⟨x, w, fun _ j u hu => ?_⟩
        obtain ⟨_, hcl, hat⟩ := World.cells?_some hc
        have hj : j < 8 := (List.getElem?_eq_some_iff.1 hu).1
        have h2 := hat j hj
        rw [e, hu] at h2
        rw [← Go.Deep.add_add]
        exact h2
      · refine ⟨z25, fun y hy => ?_, fun h => absurd h hlt⟩
        simp only [nums, z25, z23, List.mem_cons, List.not_mem_nil, or_false, or_self] at hy
        subst hy
        unfold In64
        omega
    obtain ⟨f, hf⟩ := Classical.axiomOfChoice hx
    have hlen : ((List.range len).map f).length = len := by simp
    refine ⟨(List.range len).map f, hlen, ?_, ?_⟩
    · rw [hlen]
      refine ⟨hlen, by unfold maxLen at hm; omega, fun _ => ⟨a, rfl, fun j p hj => ?_⟩⟩
      have hj2 : j < len := by have := (List.getElem?_eq_some_iff.1 hj).1; rw [hlen] at this; exact this
      have hp : p = f j := by
        rw [List.getElem?_map, List.getElem?_range hj2] at hj
        exact (Option.some.inj hj).symm
      subst hp
      exact ⟨encS (f j), rfl, k25_mk W (f j), fun i u hu => (hf j).2 hj2 i u hu⟩
    · intro x hx2
      obtain ⟨j, _, rfl⟩ := List.mem_map.1 hx2
      exact (hf j).1
end
end Go.Proofs.YtdaagoagfenadaaDoor.X

/- An access changes at most the word at its address, and is counted once: the walk by hand. Conditions: none. -/
import Derived.Test.YtahkfgeaegdbjaaXClock
import Derived.Test.YtahkfgeaegdbjaaYassartlaw01_Ints_Samex1
namespace Go.Proofs.Ytahkfgeaegdbjaa.X
open Go.RowKit Go.Proofs.Ytahkfgeaegdbjaa.Yassartlaw01_Ints_Same Go.Proofs.YtahkfgeaegdbjaaW.PrintWords Go.Proofs.YtahkfgeaegdbjaaW.PrintLast Go.Proofs.YtahkfgeaegdbjaaW.PrintMore
set_option linter.unusedVariables false
set_option linter.unusedSimpArgs false

theorem same_loop (l : List Int) (hl : l.length ≤ 9223372036854775807) (d : Nat) : ∀ (p k : Nat), p + d = l.length → d < k → assartlaw01_Ints_Same.l0 k l l (p : Int) = some true := by
  induction d with
  | zero =>
    intro p k hp hk
    obtain ⟨k, rfl⟩ : ∃ m, k = m + 1 := ⟨k - 1, by omega⟩
    simp only [assartlaw01_Ints_Same.l0]
    rw [if_neg (by omega)]
  | succ d ih =>
    intro p k hp hk
    obtain ⟨k, rfl⟩ : ∃ m, k = m + 1 := ⟨k - 1, by omega⟩
    simp only [assartlaw01_Ints_Same.l0]
    rw [if_pos (by omega), if_pos (by omega), if_pos (by omega), if_pos (by simp), w64 (a := (p : Int) + 1) (by omega) (by omega)]
    exact ih (p + 1) k (by omega) (by omega)
theorem same_calls (n : Nat) (A0 A1 : Option Addr) (c0 c1 : Nat) (l : List Int) (w : World) (hr0 : Kd.C (Kd.int .i64) w A0 n l) (hc0 : n ≤ c0) (hr1 : Kd.C (Kd.int .i64) w A1 n l) (hc1 : n ≤ c1) :
    Calls Try.prog 16 #[.slice A0 n c0, .slice A1 n c1] w fun e w' => e = .returned (.bool true) ∧ Drawn0 w w' := by
  have hn : l.length = n := hr0.1
  have hm := hr0.2.1
  subst hn
  exact assartlaw01_Ints_Same.calls (l.length + 1) A0 c0 l A1 c1 l true w hr0 hc0 hr1 hc1 (by
    unfold assartlaw01_Ints_Same.f
    rw [if_pos rfl]
    exact same_loop l (by omega) l.length 0 _ (by omega) (by omega))

/-- Where a law's walk stands: all below is as it was, the arena is so, and the step in its box is as it was. -/
structure St (w0 w : World) (B q g : Nat) (k a x y : Int) (ws : List Int) (c : Int) : Prop where
  bel : Below w0.heap.size w0 w
  ar : Ar w q g ws c
  hq : w0.heap.size ≤ q
  hg : w0.heap.size ≤ g
  hB : B < w0.heap.size
  b0 : w.cell? ⟨B, 0, none⟩ = some (.int .i64 k)
  b1 : w.cell? ⟨B, 1, none⟩ = some (.int .i64 a)
  b2 : w.cell? ⟨B, 2, none⟩ = some (.int .i64 x)
  b3 : w.cell? ⟨B, 3, none⟩ = some (.int .i64 y)
theorem St.keep {w0 w w' : World} {B q g : Nat} {k a x y : Int} {ws ws' : List Int} {c c' : Int} (h : St w0 w B q g k a x y ws c) (hk : Keep w w' q g) (ha : Ar w' q g ws' c') : St w0 w' B q g k a x y ws' c' := by
  have e : w'.heap[B]? = w.heap[B]? := hk.block B (by have := h.hB; have := h.bel.size; omega) (by have := h.hB; have := h.hq; omega) (by have := h.hB; have := h.hg; omega)
  exact ⟨Keep.below h.bel hk h.bel.size h.hq h.hg, ha, h.hq, h.hg, h.hB, (World.cell?_of_block (w := w) e).trans h.b0, (World.cell?_of_block (w := w) e).trans h.b1, (World.cell?_of_block (w := w) e).trans h.b2, (World.cell?_of_block (w := w) e).trans h.b3⟩
theorem St.grow {w0 w w' : World} {B q g : Nat} {k a x y : Int} {ws : List Int} {c : Int} (h : St w0 w B q g k a x y ws c) (hb : Below w.heap.size w w') : St w0 w' B q g k a x y ws c :=
  h.keep (Keep.of_below hb) (h.ar.below hb h.ar.lq h.ar.lg)
theorem St.start {w w' : World} {q g : Nat} {k a x y : Int} {ws : List Int} {c : Int} {T : TypeId} (ha : Ar w' q g ws c) (hq : (w.alloc (.cells #[.int .i64 k, .int .i64 a, .int .i64 x, .int .i64 y] T)).heap.size ≤ q) (hg : (w.alloc (.cells #[.int .i64 k, .int .i64 a, .int .i64 x, .int .i64 y] T)).heap.size ≤ g) (hb : Below (w.alloc (.cells #[.int .i64 k, .int .i64 a, .int .i64 x, .int .i64 y] T)).heap.size (w.alloc (.cells #[.int .i64 k, .int .i64 a, .int .i64 x, .int .i64 y] T)) w') :
    St (w.alloc (.cells #[.int .i64 k, .int .i64 a, .int .i64 x, .int .i64 y] T)) w' w.heap.size q g k a x y ws c :=
  ⟨hb, ha, hq, hg, by simp, (hb.cell (p := ⟨w.heap.size, 0, none⟩) (by simp)).trans (by simp), (hb.cell (p := ⟨w.heap.size, 1, none⟩) (by simp)).trans (by simp), (hb.cell (p := ⟨w.heap.size, 2, none⟩) (by simp)).trans (by simp), (hb.cell (p := ⟨w.heap.size, 3, none⟩) (by simp)).trans (by simp)⟩
/-- The words behind a step: the same but at the step's own place. -/
def Near (l ws : List Int) (a : Int) : Prop := ws.length = l.length ∧ ∀ i : Int, 0 ≤ i → i < l.length → i ≠ a → rd ws i = rd l i
theorem Near.set (l : List Int) (a x : Int) : Near l (if inR l a then l.set a.toNat x else l) a := by
  by_cases h : inR l a
  · rw [if_pos h]
    refine ⟨by simp, fun i h0 h1 hn => ?_⟩
    have e : a.toNat ≠ i.toNat := by have := h.1; omega
    simp [rd, List.getD, List.getElem?_set, e]
  · rw [if_neg h]; exact ⟨rfl, fun _ _ _ _ => rfl⟩
theorem Near.refl (l : List Int) (a : Int) : Near l l a := ⟨rfl, fun _ _ _ _ => rfl⟩

end Go.Proofs.Ytahkfgeaegdbjaa.X

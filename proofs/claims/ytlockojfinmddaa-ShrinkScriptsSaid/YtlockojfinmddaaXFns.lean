/- The library's Clone, Grow and Concat at entries; shrink.Without: contracts by hand. Conditions: none. -/
import Derived.Test.YtlockojfinmddaaXPlain
import Derived.Lib.AppendZerosOnto
import Derived.Lib.SliceRun
import Derived.Deep.RegionHeld3
import Derived.IntWalk
namespace Go.Proofs.Ytlockojfinmddaa.X
open Go.RowKit Go.Proofs.Ytlockojfinmddaa.PShrinkScripts Go.Proofs.YtlockojfinmddaaW.PrintWords Go.Proofs.YtlockojfinmddaaW.PrintLast Go.Proofs.YtlockojfinmddaaW.PrintMore
attribute [local go_sem] max2_int min2_int max_two min_two max_three min_three max_four min_four
set_option linter.unusedVariables false
set_option linter.unusedSimpArgs false

theorem rows39 {w : World} {A : Option Addr} {n : Nat} {xs : List S39} (h : Kd.C k39 w A n xs) : ReadsRow (fun p cs => cs = ([.int .i64 p.f0, .int .i64 p.f1, .int .i64 p.f2, .int .i64 p.f3.f0, .int .i64 p.f3.f1, .int .i64 p.f3.f2, .int .i64 p.f3.f3, .int .i64 p.f3.f4] : List Value)) 8 w A n xs :=
  ReadsRow.imp_ h (Below.refl _ _) (fun p c hp => k39_open hp)
theorem bthen {w v w' : World} (h : Below w.heap.size w v) (k : Below v.heap.size v w') : Below w.heap.size w w' := h.trans (k.mono h.size)
theorem ballo {w v : World} (h : Below w.heap.size w v) (o : Obj) : Below w.heap.size w (v.alloc o) := h.alloc h.size o
/-- A row of entries of the call's own is told; all that was is as it was. -/
def Row (w : World) (l : List S39) (e : Ending) (w' : World) : Prop := ∃ A c, e = .returned (.slice A l.length c) ∧ Kd.R k39 39 w' w.heap.size (fun _ => True) (.slice A l.length c) l ∧ Below w.heap.size w w'
theorem Row.of {w w' : World} {l : List S39} {v : Value} (h : Kd.R k39 39 w' w.heap.size (fun _ => True) v l) (hb : Below w.heap.size w w') : Row w l (.returned v) w' := by
  obtain ⟨A, c, rfl, _, _⟩ := Kd.R_reads h
  exact ⟨A, c, rfl, h, hb⟩
theorem c_none {w : World} {l : List S39} {n : Nat} (h : Kd.C k39 w none n l) : l = [] ∧ n = 0 := by
  have h1 := h.1
  rcases Nat.eq_zero_or_pos n with h0 | h0
  · subst h0; exact ⟨List.eq_nil_of_length_eq_zero h1, rfl⟩
  · obtain ⟨ad, e, _⟩ := h.2.2 h0; cases e
theorem own39 (w : World) (base : Nat) (hb : base ≤ w.heap.size) : Kd.R k39 39 (w.alloc (.cells #[] 39)) base (fun _ => True) (.slice (some ⟨w.heap.size, 0, none⟩) 0 0) [] := by
  have hq := World.ownsRow_lit (base := base) (e := 39) (size := 8) w #[] 0 hb (by decide) rfl
  exact ⟨fun _ _ => trivial, [], by simp at hq; exact hq, Reps.none _ _⟩

set_option maxHeartbeats 2000000 in
theorem clone_calls (A : Option Addr) (c : Nat) (l : List S39) (w : World) (hC : Kd.C k39 w A l.length l) (hl : l.length ≤ 1000) : Calls Try.prog 17 #[.slice A l.length c] w (Row w l) := by
  have q25 : ∀ (w : World) (a : Option Addr) (n c n' c' : Nat), (binOp .eql 25 (.slice a n c) (.slice none n' c')).run Try.prog w = .ok (.bool a.isNone) w := fun w a n c n' c' => Lib.run_eql_slice_nil w _ _ a n c n' c' Try.underlying25
  cases A with
  | none =>
    obtain ⟨rfl, _⟩ := c_none hC
    clear hC hl
    go_enter Try.func17, Try.ntmps17
    go_wp2
    go_ret
    exact ⟨none, 0, rfl, Kd.R_nil _ _ _ _ _, Below.refl _ _⟩
  | some ad =>
    have HC := Aside0.mk hC
    have HL := Aside0.mk hl
    clear hC hl
    go_enter Try.func17, Try.ntmps17
    go_wp2_with (at_builtin; (refine Kd.R_append_rows (Rr := fun p cs => cs = [.int .i64 p.f0, .int .i64 p.f1, .int .i64 p.f2, .int .i64 p.f3.f0, .int .i64 p.f3.f1, .int .i64 p.f3.f2, .int .i64 p.f3.f3, .int .i64 p.f3.f4]) (w0 := w) k39 w.heap.size rfl (.tmp 5) (.tmp 6) 25 39 (.agg #[.int .i64 0, .int .i64 0, .int .i64 0, .int .i64 0, .int .i64 0, .int .i64 0, .int .i64 0, .int .i64 0]) 64 rfl Try.underlying25 info39 rfl (by decide) (by decide) _ [] l (some ad) l.length c (fun _ => True) (fun _ => False) rfl rfl (own39 w _ (Nat.le_refl _)) (rows39 (Kd.C_below HC.out (ballo (Below.refl _ _) _))) (fun p cs hp => by subst hp; exact k39_mkM _ _ _ _) (fun _ hk => hk.elim) (fun _ _ => trivial) (ballo (Below.refl _ _) _) (by simp) (by have := HL.out; simp; omega) ?_); intro v1 w1 hR hB hg hat)
    have HR := Aside0.mk hR
    rw [List.nil_append] at hR
    go_wp2_with fail
    refine bodyPost_ret (v := v1) (by simp [results, Try.results17, go_sem]) rfl ?_
    exact Row.of hR hB

theorem zero39 : (Try.prog.info? 39).map (fun i => (i.zero, i.size, i.bytes)) = some (some (.agg #[.int .i64 0, .int .i64 0, .int .i64 0, .int .i64 0, .int .i64 0, .int .i64 0, .int .i64 0, .int .i64 0]), 8, 64) := info39
set_option maxHeartbeats 2000000 in
theorem grow_calls (n : Nat) (w : World) (hn : 1 ≤ n) (hl : n ≤ 1000) : Calls Try.prog 23 #[.slice none 0 0, .int .i64 (n : Int)] w (Row w []) := by
  obtain ⟨i0, hi, hzz⟩ := Option.map_eq_some_iff.1 zero39
  simp only [Prod.mk.injEq] at hzz
  obtain ⟨hz0, hz1, hz2⟩ := hzz
  have hrz : ∀ ty, (Builtin.append_ #[25, 3] ty #[.slice none 0 0, .int .i64 (n : Int)]).run Try.prog w = _ := fun ty => Lib.run_append_nil_zeros w 25 3 ty 39 i0 _ .i64 .i64 Try.underlying25 Try.underlying3 hi hz0 n (by omega) (by omega) (by omega) (by rw [hz2]; omega)
  have hb0 : decide ((n : Int) < 0) = false := decide_eq_false (by omega)
  have hb1 : decide ((n : Int) > 0) = true := decide_eq_true (by omega)
  have hb2 : decide ((0 : Int) < (n : Int)) = true := decide_eq_true (by omega)
  have hge : n ≤ grownCap w n 0 39 := grownCap_ge w _ _ _
  have hle : grownCap w n 0 39 ≤ maxLen := grownCap_le_maxLen w n 0 39 (by unfold maxLen; omega)
  obtain ⟨G, hG⟩ : ∃ G, G = grownCap w n 0 39 := ⟨_, rfl⟩
  rw [← hG] at hrz hge hle
  have hp0 : (0 : Int) ≤ (G : Int) := by omega
  have HG := Aside0.mk (And.intro hge hle)
  have HN := Aside0.mk (And.intro hn hl)
  have HI := Aside0.mk (And.intro hi (And.intro hz0 (And.intro hz1 hz2)))
  have hn1 : (1 : Int) ≤ (n : Int) := by omega
  have hn2 : (n : Int) ≤ 1000 := by omega
  have hn3 : (n : Int) ≤ (G : Int) := by omega
  have hG3 : (G : Int) ≤ 9223372036854775807 := by unfold maxLen at hle; omega
  clear hn hl hG hi hz0 hz1 hz2 hge hle
  go_enter Try.func23, Try.ntmps23
  go_wp2_with (at_builtin; refine Lib.wpList_append_run _ rfl _ _ _ _ rfl _ _ rfl rfl _ _ (hrz _) ?_)
  go_ret
  refine ⟨_, _, rfl, ⟨fun _ _ => trivial, [], ⟨rfl, .inr ⟨w.heap.size, G, _, rfl, Nat.le_refl _, blk_drew (blk_new w _), Nat.zero_le _, HG.out.2, ?_, by simp⟩⟩, Reps.none _ _⟩, below_drew (ballo (Below.refl _ _) _)⟩
  rw [Array.size_append, size_zeroCells, size_zeroCells]
  have := HG.out
  have hs : k39.sz = 8 := rfl
  rw [hs]
  simp
  omega
set_option maxHeartbeats 2000000 in
theorem grow_none (w : World) : Calls Try.prog 23 #[.slice none 0 0, .int .i64 0] w (Row w []) := by
  go_enter Try.func23, Try.ntmps23
  go_wp2
  go_ret
  exact ⟨none, 0, rfl, Kd.R_nil _ _ _ _ _, Below.refl _ _⟩

/-- A row of two rows. -/
def Two (w : World) (g : Nat) (A1 A2 : Option Addr) (c1 c2 : Nat) (l1 l2 : List S39) : Prop := w.heap[g]? = some (.cells #[.slice A1 l1.length c1, .slice A2 l2.length c2] 25) ∧ Kd.C k39 w A1 l1.length l1 ∧ Kd.C k39 w A2 l2.length l2
theorem Two.below {w w' : World} {g : Nat} {A1 A2 : Option Addr} {c1 c2 : Nat} {l1 l2 : List S39} (h : Two w g A1 A2 c1 c2 l1 l2) (hb : Below w.heap.size w w') : Two w' g A1 A2 c1 c2 l1 l2 := ⟨blk_below h.1 hb, Kd.C_below h.2.1 hb, Kd.C_below h.2.2 hb⟩
theorem grow_any (n : Nat) (w : World) (hl : n ≤ 1000) : Calls Try.prog 23 #[.slice none 0 0, .int .i64 (n : Int)] w (Row w []) := by
  rcases Nat.eq_zero_or_pos n with rfl | h
  · exact grow_none w
  · exact grow_calls n w h hl
theorem grow_to (z : Int) (n : Nat) (w : World) (hz : z = (n : Int)) (hl : n ≤ 1000) : Calls Try.prog 23 #[.slice none 0 0, .int .i64 z] w (Row w []) := by
  subst hz
  exact grow_any n w hl
set_option maxHeartbeats 4000000 in
theorem concat_calls (g : Nat) (A1 A2 : Option Addr) (c1 c2 : Nat) (l1 l2 : List S39) (w : World) (h : Two w g A1 A2 c1 c2 l1 l2) (hl : l1.length + l2.length ≤ 1000) : Calls Try.prog 18 #[.slice (some ⟨g, 0, none⟩) 2 2] w (Row w (l1 ++ l2)) := by
  have H := Aside0.mk h
  have HL := Aside0.mk hl
  have x0 : w.cell? ⟨g, 0, none⟩ = some (.slice A1 l1.length c1) := blk_cell h.1 0
  have x1 : w.cell? ⟨g, 1, none⟩ = some (.slice A2 l2.length c2) := blk_cell h.1 1
  obtain ⟨n1, e1⟩ : ∃ n1, n1 = l1.length := ⟨_, rfl⟩
  obtain ⟨n2, e2⟩ : ∃ n2, n2 = l2.length := ⟨_, rfl⟩
  rw [← e1] at x0 hl
  rw [← e2] at x1 hl
  have E := Aside0.mk (And.intro e1 e2)
  have b1 : (n1 : Int) ≤ 1000 := by omega
  have b2 : (n1 : Int) + (n2 : Int) ≤ 1000 := by omega
  have d1 : decide ((n1 : Int) < 0) = false := decide_eq_false (by omega)
  have d2 : decide ((n1 : Int) + (n2 : Int) < 0) = false := decide_eq_false (by omega)
  clear h hl e1 e2
  go_enter Try.func18, Try.ntmps18
  go_wp2
  go_loopg [3, 5, 11] 2 (fun kq v3 v5 v11 w' => w' = w ∧ ((kq = 2 ∧ v3 = .int .i64 0 ∧ v11 = .int .i64 0) ∨ (kq = 1 ∧ v3 = .int .i64 (n1 : Int) ∧ v11 = .int .i64 1) ∨ (kq = 0 ∧ v3 = .int .i64 ((n1 : Int) + (n2 : Int)) ∧ v11 = .int .i64 2)))
  case atStart => exact ⟨rfl, .inl ⟨rfl, rfl, rfl⟩⟩
  case round =>
    obtain ⟨rfl, ⟨rfl, rfl, rfl⟩ | ⟨rfl, rfl, rfl⟩ | ⟨rfl, rfl, rfl⟩⟩ := hrel
    · go_wp2
      go_roundg 1
      case measure => omega
      case rel => exact ⟨rfl, .inr (.inl ⟨rfl, rfl, rfl⟩)⟩
    · go_wp2
      go_roundg 0
      case measure => omega
      case rel => exact ⟨rfl, .inr (.inr ⟨rfl, rfl, rfl⟩)⟩
    · have HN : Aside0 ((n1 : Int) + (n2 : Int) = ((n1 + n2 : Nat) : Int)) := ⟨by omega⟩
      go_wp2_with (go_at_call 23; refine (grow_to _ (n1 + n2) wr HN.out (by have := HL.out; have := E.out; omega)).mono ?_; rintro e w1 ⟨A6, c6, rfl, hR, hB⟩)
      obtain ⟨w0, rfl⟩ : ∃ w0 : World, w0 = wr := ⟨_, rfl⟩
      have hR0 : Kd.R k39 39 w1 w0.heap.size (fun _ => True) (.slice A6 ([] : List S39).length c6) [] := hR
      go_loopg [6, 8, 27] 2 (fun kq v6 v8 v27 w' => ∃ (X : List S39) (A6 : Option Addr) (c6 : Nat), v6 = .slice A6 X.length c6 ∧ Aside0 (Kd.R k39 39 w' w0.heap.size (fun _ => True) (.slice A6 X.length c6) X) ∧ Below w0.heap.size w0 w' ∧ ((kq = 2 ∧ [] = X ∧ v27 = .int .i64 0) ∨ (kq = 1 ∧ l1 = X ∧ v27 = .int .i64 1) ∨ (kq = 0 ∧ l1 ++ l2 = X ∧ v27 = .int .i64 2)))
      case atStart => exact ⟨[], A6, c6, rfl, ⟨hR0⟩, hB, .inl ⟨rfl, rfl, rfl⟩⟩
      case round =>
        clear hR hR0 hB
        obtain ⟨X, A6, c6, rfl, HR, hbel, ⟨rfl, rfl, rfl⟩ | ⟨rfl, rfl, rfl⟩ | ⟨rfl, rfl, rfl⟩⟩ := hrel
        · have y0 := pw_cell_below hbel x0
          have HB := Aside0.mk hbel
          go_wp2_with (at_builtin; go_loud (refine Kd.R_append_rows (Rr := fun p cs => cs = [.int .i64 p.f0, .int .i64 p.f1, .int .i64 p.f2, .int .i64 p.f3.f0, .int .i64 p.f3.f1, .int .i64 p.f3.f2, .int .i64 p.f3.f3, .int .i64 p.f3.f4]) (w0 := w0) k39 w0.heap.size rfl (.tmp 31) (.tmp 32) 25 39 (.agg #[.int .i64 0, .int .i64 0, .int .i64 0, .int .i64 0, .int .i64 0, .int .i64 0, .int .i64 0, .int .i64 0]) 64 rfl Try.underlying25 info39 rfl (by decide) (by decide) (.slice A6 ([] : List S39).length c6) [] l1 A1 n1 c1 (fun _ => True) (fun _ => False) rfl rfl (HR.out) (rows39 (by rw [E.out.1]; exact Kd.C_below H.out.2.1 HB.out)) (fun p cs hp => by subst hp; exact k39_mkM _ _ _ _) (fun _ hk => hk.elim) (fun _ _ => trivial) (HB.out) (HB.out.size) (by have := HL.out; have := E.out; simp; omega) ?_); intro v1 w3 hR hB hg hat)
          obtain ⟨A7, c7, rfl, _, _⟩ := Kd.R_reads hR
          go_wp2_with fail
          go_roundg 1
          case measure => omega
          case rel => exact ⟨l1, A7, c7, rfl, ⟨hR⟩, hB, .inr (.inl ⟨rfl, rfl, rfl⟩)⟩
        · have y1 := pw_cell_below hbel x1
          have HB := Aside0.mk hbel
          go_wp2_with (at_builtin; go_loud (refine Kd.R_append_rows (Rr := fun p cs => cs = [.int .i64 p.f0, .int .i64 p.f1, .int .i64 p.f2, .int .i64 p.f3.f0, .int .i64 p.f3.f1, .int .i64 p.f3.f2, .int .i64 p.f3.f3, .int .i64 p.f3.f4]) (w0 := w0) k39 w0.heap.size rfl (.tmp 31) (.tmp 32) 25 39 (.agg #[.int .i64 0, .int .i64 0, .int .i64 0, .int .i64 0, .int .i64 0, .int .i64 0, .int .i64 0, .int .i64 0]) 64 rfl Try.underlying25 info39 rfl (by decide) (by decide) (.slice A6 l1.length c6) l1 l2 A2 n2 c2 (fun _ => True) (fun _ => False) rfl rfl (HR.out) (rows39 (by rw [E.out.2]; exact Kd.C_below H.out.2.2 HB.out)) (fun p cs hp => by subst hp; exact k39_mkM _ _ _ _) (fun _ hk => hk.elim) (fun _ _ => trivial) (HB.out) (HB.out.size) (by have := HL.out; have := E.out; omega) ?_); intro v1 w3 hR hB hg hat)
          obtain ⟨A7, c7, rfl, _, _⟩ := Kd.R_reads hR
          go_wp2_with fail
          go_roundg 0
          case measure => omega
          case rel => exact ⟨l1 ++ l2, A7, c7, rfl, ⟨hR⟩, hB, .inr (.inr ⟨rfl, rfl, rfl⟩)⟩
        · go_wp2
          go_ret
          exact ⟨A6, c6, rfl, HR.out, hbel⟩

end Go.Proofs.Ytlockojfinmddaa.X

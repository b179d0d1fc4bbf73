/- A question as a function; the shrinker's try: contracts by hand. Conditions: none. -/
import Derived.Test.YtlockojfinmddaaXWithout
import Derived.WalkLawsBesides
namespace Go.Proofs.Ytlockojfinmddaa.X
open Go.RowKit Go.Proofs.Ytlockojfinmddaa.PShrinkScripts Go.Proofs.YtlockojfinmddaaW.PrintWords Go.Proofs.YtlockojfinmddaaW.PrintLast Go.Proofs.YtlockojfinmddaaW.PrintMore
set_option linter.unusedVariables false
set_option linter.unusedSimpArgs false

/-- A question: its box, its row, its numbers. -/
structure Qs where
  b : Nat
  A : Option Addr
  c : Nat
  ws : List Int
  each : Int
  most : Int
def Qs.v (P : Qs) : Value := .agg #[.slice P.A P.ws.length P.c, .int .i64 P.each, .int .i64 P.most]
def Qs.cells (P : Qs) : Obj := .cells #[.slice P.A P.ws.length P.c, .int .i64 P.each, .int .i64 P.most] 24
def Qs.h (P : Qs) (l : List S39) : Bool := holdB P.ws P.each P.most l
/-- The function that asks it. -/
def Qs.fn (P : Qs) : Value := .func (.func 21) #[] #[.pointer (some ⟨P.b, 0, none⟩)]
/-- The question's row is there. -/
structure Qr (w : World) (P : Qs) : Prop where
  row : Kd.C (Kd.int .i64) w P.A P.ws.length P.ws
  cap : P.ws.length ≤ P.c
  small : P.ws.length ≤ 1000
structure Qu (w : World) (P : Qs) : Prop extends Qr w P where
  blk : w.heap[P.b]? = some P.cells
theorem Qr.below {w w' : World} {P : Qs} (h : Qr w P) (hb : Below w.heap.size w w') : Qr w' P := ⟨Kd.C_below h.row hb, h.cap, h.small⟩
theorem Qu.below {w w' : World} {P : Qs} (h : Qu w P) (hb : Below w.heap.size w w') : Qu w' P := ⟨h.toQr.below hb, blk_below h.blk hb⟩
/-- All but the block q is as it was. -/
structure Kq (w w' : World) (q : Nat) : Prop where
  os : w'.os = w.os
  tape : w'.tape = w.tape
  output : w'.output = w.output
  size : w.heap.size ≤ w'.heap.size
  block : ∀ k, k < w.heap.size → k ≠ q → w'.heap[k]? = w.heap[k]?
theorem Kq.refl (w : World) (q : Nat) : Kq w w q := ⟨rfl, rfl, rfl, Nat.le_refl _, fun _ _ _ => rfl⟩
theorem Kq.trans {a b c : World} {q : Nat} (h : Kq a b q) (k : Kq b c q) : Kq a c q :=
  ⟨k.os.trans h.os, k.tape.trans h.tape, k.output.trans h.output, Nat.le_trans h.size k.size, fun i hi h1 => (k.block i (Nat.lt_of_lt_of_le hi h.size) h1).trans (h.block i hi h1)⟩
theorem Kq.of_below {w w' : World} {q : Nat} (h : Below w.heap.size w w') : Kq w w' q := ⟨h.os, h.tape, h.output, h.size, fun k hk _ => h.block k hk⟩
theorem Kq.set (w : World) (q j : Nat) (v : Value) : Kq w (w.setCell ⟨q, j, none⟩ v) q := by
  have h := (Below.refl 0 w).setCell (p := ⟨q, j, none⟩) (Nat.zero_le _) v
  exact ⟨h.os, h.tape, h.output, h.size, fun k hk h1 => Below.heap_setCell w _ v k h1⟩
theorem Kq.below {B : Nat} {a w w' : World} {q : Nat} (h : Below B a w) (k : Kq w w' q) (hB : B ≤ w.heap.size) (hq : B ≤ q) : Below B a w' :=
  ⟨k.os.trans h.os, k.tape.trans h.tape, k.output.trans h.output, Nat.le_trans h.size k.size, fun i hi => (k.block i (by omega) (by omega)).trans (h.block i hi)⟩
theorem Kq.cell {w w' : World} {q : Nat} (k : Kq w w' q) {a : Addr} {v : Value} (hc : w.cell? a = some v) (hn : a.block ≠ q) : w'.cell? a = some v :=
  (World.cell?_of_block (w := w) (k.block a.block (World.block_lt_of_cell? w a hc) hn)).trans hc
theorem add_blk (a : Addr) (k : Nat) : (a.add k).block = a.block := by unfold Addr.add; split <;> rfl
theorem c39_keep {w w' : World} {q : Nat} {A : Option Addr} {n : Nat} {l : List S39} (h : Kd.C k39 w A n l) (k : Kq w w' q) (hf : ∀ ad, A = some ad → ad.block ≠ q) : Kd.C k39 w' A n l := by
  refine ⟨h.1, h.2.1, fun hp => ?_⟩
  obtain ⟨ad, e, hc⟩ := h.2.2 hp
  refine ⟨ad, e, fun j p hj => ?_⟩
  obtain ⟨c, h1, h2, h3⟩ := hc j p hj
  refine ⟨c, h1, ?_, fun i u hu => k.cell (h3 i u hu) (by rw [add_blk]; exact hf ad e)⟩
  rw [k39_open h2]
  exact k39_mk w' p
theorem Kq.but {w w' : World} {q : Nat} (k : Kq w w' q) : KeepBut w w' q none := ⟨k.size, fun i hi h1 _ => k.block i hi h1⟩
theorem Qr.keep {w w' : World} {q : Nat} {P : Qs} (h : Qr w P) (k : Kq w w' q) (hf : ∀ ad, P.A = some ad → 0 < P.ws.length → ad.block ≠ q) : Qr w' P :=
  ⟨Kd.C_keep (0 : Int) h.row k.but hf, h.cap, h.small⟩
theorem Qu.keep {w w' : World} {q : Nat} {P : Qs} (h : Qu w P) (k : Kq w w' q) (hf : ∀ ad, P.A = some ad → 0 < P.ws.length → ad.block ≠ q) (hb : P.b ≠ q) : Qu w' P :=
  ⟨h.toQr.keep k hf, (k.block P.b (blk_lt h.blk) hb).trans h.blk⟩
/-- The shrinker at q: its list, the question that it asks. -/
structure Sh (w : World) (q : Nat) (P : Qs) (A : Option Addr) (c : Nat) (l : List S39) : Prop where
  blk : w.heap[q]? = some (.cells #[.slice A l.length c, P.fn] 44)
  row : Kd.C k39 w A l.length l
  cap : l.length ≤ c
  far : ∀ ad, A = some ad → ad.block ≠ q
  qu : Qu w P
  bq : P.b ≠ q
  far0 : ∀ ad, P.A = some ad → 0 < P.ws.length → ad.block ≠ q
theorem Sh.below {w w' : World} {q : Nat} {P : Qs} {A : Option Addr} {c : Nat} {l : List S39} (h : Sh w q P A c l) (hb : Below w.heap.size w w') : Sh w' q P A c l :=
  ⟨blk_below h.blk hb, Kd.C_below h.row hb, h.cap, h.far, h.qu.below hb, h.bq, h.far0⟩

theorem asks_calls (P : Qs) (w : World) : Calls Try.prog 12 #[.agg #[.slice P.A P.ws.length P.c, .int .i64 P.each, .int .i64 P.most]] w fun e w' => e = .returned (.func (.func 21) #[] #[.pointer (some ⟨w.heap.size, 0, none⟩)]) ∧ w' = w.alloc P.cells := by
  go_enter Try.func12, Try.ntmps12
  go_wp2
  go_ret
  exact ⟨rfl, rfl⟩
theorem holds_calls (P : Qs) (A : Option Addr) (c : Nat) (l : List S39) (w : World) (h : Qr w P) (hC : Kd.C k39 w A l.length l) (hc : l.length ≤ c) (hl : l.length ≤ 1000) : Calls Try.prog 16 #[.agg #[.slice P.A P.ws.length P.c, .int .i64 P.each, .int .i64 P.most], .slice A l.length c] w fun e w' => e = .returned (.bool (P.h l)) ∧ Below w.heap.size w w' :=
  assartref37_Holds.calls _ P.A P.c P.ws P.each P.most A c l _ w h.row h.cap hC hc (holds_f P.ws P.each P.most l (by omega) (by have := h.small; omega))
theorem ask_calls (P : Qs) (A : Option Addr) (c : Nat) (l : List S39) (w : World) (h : Qu w P) (hC : Kd.C k39 w A l.length l) (hc : l.length ≤ c) (hl : l.length ≤ 1000) : Calls Try.prog 21 #[.slice A l.length c, .pointer (some ⟨P.b, 0, none⟩)] w fun e w' => e = .returned (.bool (P.h l)) ∧ Below w.heap.size w w' := by
  have x0 : w.cell? ⟨P.b, 0, none⟩ = some (.slice P.A P.ws.length P.c) := blk_cell h.blk 0
  have x1 : w.cell? ⟨P.b, 1, none⟩ = some (.int .i64 P.each) := blk_cell h.blk 1
  have x2 : w.cell? ⟨P.b, 2, none⟩ = some (.int .i64 P.most) := blk_cell h.blk 2
  have H := Aside0.mk h
  have HC := Aside0.mk hC
  have HL := Aside0.mk (And.intro hc hl)
  clear h hC hc hl
  go_enter Try.func21, Try.ntmps21
  go_wp2_with (go_at_call 16; refine (holds_calls P A c l _ H.out.toQr HC.out HL.out.1 HL.out.2).mono ?_; rintro e w1 ⟨rfl, hB⟩)
  go_ret
  exact ⟨rfl, hB⟩
theorem ask_to (P : Qs) (A : Option Addr) (c : Nat) (l : List S39) (r : Bool) (w : World) (h : Qu w P) (hC : Kd.C k39 w A l.length l) (hc : l.length ≤ c) (hl : l.length ≤ 1000) (hr : P.h l = r) : Calls Try.prog 21 #[.slice A l.length c, .pointer (some ⟨P.b, 0, none⟩)] w fun e w' => e = .returned (.bool r) ∧ Below w.heap.size w w' := by
  subst hr
  exact ask_calls P A c l w h hC hc hl
theorem without_to (A : Option Addr) (c : Nat) (l : List S39) (fr many : Int) (m : List S39) (w : World) (hC : Kd.C k39 w A l.length l) (hc : l.length ≤ c) (hl : l.length ≤ 1000) (hm : m = wout l fr many) : Calls Try.prog 8 #[.slice A l.length c, .int .i64 fr, .int .i64 many] w (Row w m) := by
  subst hm
  exact without_calls A c l fr many w hC hc hl
def tried (P : Qs) (l : List S39) (fr many : Int) : List S39 := if P.h (wout l fr many) = true then wout l fr many else l
def TryPost (w : World) (q : Nat) (P : Qs) (l : List S39) (fr many : Int) (e : Ending) (w' : World) : Prop := e = .returned (.bool (P.h (wout l fr many))) ∧ Kq w w' q ∧ ∃ A c, Sh w' q P A c (tried P l fr many)
theorem row_len {w : World} {A : Option Addr} {c base : Nat} {l : List S39} (h : Kd.R k39 39 w base (fun _ => True) (.slice A l.length c) l) : l.length ≤ c ∧ Kd.C k39 w A l.length l ∧ ∀ ad, A = some ad → base ≤ ad.block := by
  obtain ⟨_, h1, h2⟩ := Kd.R_reads' h
  exact ⟨h1, h2, fun ad e => by subst e; exact Kd.R_base h _ rfl⟩
set_option maxHeartbeats 1000000 in
theorem try_calls (q : Nat) (P : Qs) (A : Option Addr) (c : Nat) (l : List S39) (fr many : Int) (w : World) (h : Sh w q P A c l) (hl : l.length ≤ 1000) : Calls Try.prog 24 #[.pointer (some ⟨q, 0, none⟩), .int .i64 fr, .int .i64 many] w (TryPost w q P l fr many) := by
  have x0 : w.cell? ⟨q, 0, none⟩ = some (.slice A l.length c) := blk_cell h.blk 0
  have x1 : w.cell? ⟨q, 1, none⟩ = some P.fn := blk_cell h.blk 1
  have hq := blk_lt h.blk
  have H := Aside0.mk h
  have HL := Aside0.mk hl
  have HQ := Aside0.mk hq
  have ML := Aside0.mk (Nat.le_trans (wout_len l fr many) hl)
  obtain ⟨m, hm⟩ : ∃ m, m = wout l fr many := ⟨_, rfl⟩
  have HM := Aside0.mk hm
  clear h hl hm hq
  unfold Qs.fn at x1
  by_cases hr : P.h m = true
  · have HR := Aside0.mk hr
    clear hr
    go_enter Try.func24, Try.ntmps24
    go_wp2_with (first
      | (go_at_call 8; refine (without_to A c l fr many m w H.out.row H.out.cap HL.out HM.out).mono ?_; rintro e w1 ⟨A1, c1, rfl, hR, hB⟩; have HB := Aside0.mk hB; have HR1 := Aside0.mk hR; have S1 := Aside0.mk (H.out.below hB); have y1 : w1.cell? ⟨q, 1, none⟩ = some (.func (.func 21) #[] #[.pointer (some ⟨P.b, 0, none⟩)]) := blk_cell S1.out.blk 1; clear hB hR)
      | (go_at_call 21; refine (ask_to P A1 c1 m true w1 S1.out.qu (row_len HR1.out).2.1 (row_len HR1.out).1 (by rw [HM.out]; exact ML.out) HR.out).mono ?_; rintro e w2 ⟨rfl, hB⟩; have HB2 := Aside0.mk hB; have S2 := Aside0.mk (S1.out.below hB); have y2 : w2.cell? ⟨q, 0, none⟩ = some (.slice A l.length c) := blk_cell S2.out.blk 0; have y2f : w2.frozen? ⟨q, 0, none⟩ = false := blk_frozen S2.out.blk 0; clear hB))
    go_ret
    have kk := (Kq.of_below (bthen HB.out HB2.out) : Kq w w2 q).trans (Kq.set w2 q 0 (.slice A1 m.length c1))
    have hb := row_len HR1.out
    have hfar : ∀ ad, A1 = some ad → ad.block ≠ q := fun ad e => by have := hb.2.2 ad e; have := HQ.out; omega
    refine ⟨by rw [← HM.out, HR.out]; rfl, kk, A1, c1, ?_⟩
    have et : tried P l fr many = m := by unfold tried; rw [← HM.out, if_pos HR.out]
    rw [et]
    refine ⟨blk_set S2.out.blk 0 _, c39_keep (Kd.C_below hb.2.1 HB2.out) (Kq.set _ _ _ _) hfar, hb.1, hfar, S2.out.qu.keep (Kq.set _ _ _ _) S2.out.far0 S2.out.bq, S2.out.bq, S2.out.far0⟩
  · have HR := Aside0.mk (Bool.eq_false_iff.2 hr)
    clear hr
    go_enter Try.func24, Try.ntmps24
    go_wp2_with (first
      | (go_at_call 8; refine (without_to A c l fr many m w H.out.row H.out.cap HL.out HM.out).mono ?_; rintro e w1 ⟨A1, c1, rfl, hR, hB⟩; have HB := Aside0.mk hB; have HR1 := Aside0.mk hR; have S1 := Aside0.mk (H.out.below hB); have y1 : w1.cell? ⟨q, 1, none⟩ = some (.func (.func 21) #[] #[.pointer (some ⟨P.b, 0, none⟩)]) := blk_cell S1.out.blk 1; clear hB hR)
      | (go_at_call 21; refine (ask_to P A1 c1 m false w1 S1.out.qu (row_len HR1.out).2.1 (row_len HR1.out).1 (by rw [HM.out]; exact ML.out) HR.out).mono ?_; rintro e w2 ⟨rfl, hB⟩; have HB2 := Aside0.mk hB; have S2 := Aside0.mk (S1.out.below hB); clear hB))
    go_ret
    have et : tried P l fr many = l := by unfold tried; rw [← HM.out, HR.out]; rfl
    refine ⟨by rw [← HM.out, HR.out]; rfl, Kq.of_below (bthen HB.out HB2.out), A, c, ?_⟩
    rw [et]
    exact S2.out

end Go.Proofs.Ytlockojfinmddaa.X

/- What is put into a queue of strings is taken in that order: the walk. Conditions: none. -/
import Derived.Test.YtccnfckogcdpcaaXLives
namespace Go.Proofs.Ytccnfckogcdpcaa.X
open Go.Conc Go.RowKit Go.Proofs.YtccnfckogcdpcaaW.PrintWords
set_option linter.unusedVariables false
set_option linter.unusedSimpArgs false

/-- A row of strings in memory. -/
def StrsAt (w : World) (A : Option Addr) (n : Nat) (ss : List ByteArray) : Prop := ss.length = n ∧ (0 < n → ∃ ad : Addr, A = some ad ∧ ∀ i, i < n → w.cell? (ad.add i) = some (.string (ss.getD i {data := #[]})))
theorem cell_below {B : Nat} {w w' : World} (hb : Below B w w') {ad : Addr} {v : Value} (hB : B = w.heap.size) (h : w.cell? ad = some v) : w'.cell? ad = some v := by
  subst hB
  have hlt : ad.block < w.heap.size := by
    unfold World.cell? at h
    by_cases hl : ad.block < w.heap.size
    · exact hl
    · rw [Array.getElem?_eq_none (by omega)] at h; simp at h
  exact (World.cell?_of_block (w := w) (hb.block _ hlt)).trans h
theorem StrsAt.below {w w' : World} {A : Option Addr} {n : Nat} {ss : List ByteArray} (h : StrsAt w A n ss) (hb : Below w.heap.size w w') : StrsAt w' A n ss := by
  refine ⟨h.1, fun hn => ?_⟩
  obtain ⟨ad, e, hc⟩ := h.2 hn
  exact ⟨ad, e, fun i hi => cell_below hb rfl (hc i hi)⟩

theorem StrsAt.at_ {w v : World} {ad : Addr} {n : Nat} {ss : List ByteArray} (h : StrsAt w (some ad) n ss) (hb : Below w.heap.size w v) (i : Nat) (hi : i < n) : v.cell? (ad.add i) = some (.string (ss.getD i {data := #[]})) := by
  obtain ⟨ad', e, hc⟩ := (h.below hb).2 (by omega)
  cases e
  exact hc i hi
theorem cap_room {room : Int} (h0 : 0 ≤ room) (h1 : room ≤ 100) : capOf room = room.toNat := by unfold capOf; omega
/-- Of the first i: what waits, and how many are missed. -/
def bufOf (ss : List ByteArray) (room i : Int) : List ByteArray := ss.take (min i.toNat room.toNat)
def missOf (room i : Int) : Int := if i ≤ room then 0 else i - room
theorem buf_len {ss : List ByteArray} {room i : Int} (h : i.toNat ≤ ss.length) : (bufOf ss room i).length = min i.toNat room.toNat := by
  unfold bufOf; rw [List.length_take]; omega
theorem buf_next {ss : List ByteArray} {room i : Int} (h0 : 0 ≤ i) (h : i < ss.length) (hr : 0 ≤ room) (hr1 : room ≤ 100) : qp (capOf room) (bufOf ss room i) (ss.getD i.toNat {data := #[]}) = bufOf ss room (i + 1) ∧ (i ≤ 200 → qm (capOf room) (bufOf ss room i) (missOf room i) = missOf room (i + 1)) ∧ decide ((bufOf ss room i).length < capOf room) = decide (i < room) := by
  have hl := buf_len (ss := ss) (room := room) (i := i) (by omega)
  rw [cap_room hr hr1]
  unfold qp qm missOf
  by_cases hc : i < room
  · have e : (bufOf ss room i).length < room.toNat := by omega
    refine ⟨?_, ?_, by simp only [decide_eq_true e, decide_eq_true hc]⟩
    · rw [if_pos e]
      unfold bufOf
      rw [show min i.toNat room.toNat = i.toNat by omega, show min (i + 1).toNat room.toNat = i.toNat + 1 by omega, List.take_succ_eq_append_getElem (by omega)]
      simp [List.getD, show i.toNat < ss.length by omega]
    · intro _
      rw [if_pos e, if_pos (by omega), if_pos (by omega)]
  · have e : ¬ (bufOf ss room i).length < room.toNat := by omega
    refine ⟨?_, ?_, by simp only [decide_eq_false e, decide_eq_false hc]⟩
    · rw [if_neg e]
      unfold bufOf
      rw [show min i.toNat room.toNat = room.toNat by omega, show min (i + 1).toNat room.toNat = room.toNat by omega]
    · intro h2
      rw [if_neg e, if_neg (show ¬ i + 1 ≤ room by omega)]
      split
      · rw [show IntKind.wrap .i64 (0 + 1) = 1 by decide]; omega
      · rw [IntWalk.i64_in _ (by omega)]; omega
theorem head_drop (L : List ByteArray) (j : Nat) : (L.drop j).headD {data := #[]} = L.getD j {data := #[]} := by
  rw [List.headD_eq_head?_getD, List.head?_drop, List.getD_eq_getElem?_getD]
theorem tail_drop (L : List ByteArray) (j : Nat) : (L.drop j).tail = L.drop (j + 1) := by rw [List.tail_drop]

set_option maxRecDepth 100000 in
theorem order_long (A : Option Addr) (n cp : Nat) (room : Int) (w : World) (h : 200 < (n : Int)) : Calls Try.prog 3 #[.slice A n cp, .int .i64 room] w fun e w' => e = .returned (.bool true) ∧ Below w.heap.size w w' := by
  have b0 : decide ((200 : Int) < (n : Int)) = true := decide_eq_true h
  clear h
  go_enter Try.func3, Try.ntmps3
  go_wp2_with (go_at_call 6; refine (lives_calls _).mono ?_; rintro e w9 ⟨rfl, hB⟩)
  go_ret
  exact ⟨rfl, hB⟩

set_option maxRecDepth 100000 in
theorem order_low (A : Option Addr) (n cp : Nat) (room : Int) (w : World) (h : (n : Int) ≤ 200 ∧ room < 0) : Calls Try.prog 3 #[.slice A n cp, .int .i64 room] w fun e w' => e = .returned (.bool true) ∧ Below w.heap.size w w' := by
  have b0 : decide ((200 : Int) < (n : Int)) = false := decide_eq_false (by omega)
  have b1 : decide (room < (0 : Int)) = true := decide_eq_true h.2
  clear h
  go_enter Try.func3, Try.ntmps3
  go_wp2_with (go_at_call 6; refine (lives_calls _).mono ?_; rintro e w9 ⟨rfl, hB⟩)
  go_ret
  exact ⟨rfl, hB⟩

set_option maxRecDepth 100000 in
theorem order_high (A : Option Addr) (n cp : Nat) (room : Int) (w : World) (h : (n : Int) ≤ 200 ∧ 100 < room) : Calls Try.prog 3 #[.slice A n cp, .int .i64 room] w fun e w' => e = .returned (.bool true) ∧ Below w.heap.size w w' := by
  have b0 : decide ((200 : Int) < (n : Int)) = false := decide_eq_false (by omega)
  have b1 : decide (room < (0 : Int)) = false := decide_eq_false (by omega)
  have b2 : decide ((100 : Int) < room) = true := decide_eq_true h.2
  clear h
  go_enter Try.func3, Try.ntmps3
  go_wp2_with (go_at_call 6; refine (lives_calls _).mono ?_; rintro e w9 ⟨rfl, hB⟩)
  go_ret
  exact ⟨rfl, hB⟩

set_option maxRecDepth 100000 in
set_option maxHeartbeats 40000000 in
theorem order_lt (A : Option Addr) (n cp : Nat) (ss : List ByteArray) (room : Int) (w : World) (hn : n ≤ 200) (hr0 : 0 ≤ room) (hr1 : room ≤ 100) (hm : (n : Int) < room) (hA : StrsAt w A n ss) : Calls Try.prog 3 #[.slice A n cp, .int .i64 room] w fun e w' => e = .returned (.bool true) ∧ Below w.heap.size w w' := by
  have b0 : decide ((200 : Int) < (n : Int)) = false := decide_eq_false (by omega)
  have b1 : decide (room < (0 : Int)) = false := decide_eq_false (by omega)
  have b2 : decide ((100 : Int) < room) = false := decide_eq_false (by omega)
  have HA := Aside0.mk hA
  have HN := Aside0.mk (And.intro hn (And.intro hr0 (And.intro hr1 hm)))
  clear hA hn hr0 hr1 hm
  go_enter Try.func3, Try.ntmps3
  go_wp2_with (go_at_call 7; refine (news_calls _ w).mono ?_; rintro _ w1 ⟨q, g, hq, hg, rfl, h1, hb1⟩)
  have H1 := Aside0.mk (And.intro hq (And.intro hg (And.intro h1 hb1)))
  clear hq hg h1 hb1
  go_loopg [6] n (fun kq v6 w' => ∃ (i : Int), v6 = .int .i64 i ∧ 0 ≤ i ∧ i + (kq : Int) = n ∧ Aside0 (Qu w' q g (capOf room) ((bufOf ss room i).map Value.string) (missOf room i)) ∧ Below w.heap.size w w')
  case atStart =>
    obtain ⟨hq, hg, h1, hb1⟩ := H1.out
    obtain ⟨hn, hr0, hr1, hm⟩ := HN.out
    refine ⟨0, rfl, by omega, by omega, ⟨?_⟩, hb1⟩
    have e1 : bufOf ss room 0 = [] := by unfold bufOf; simp
    have e2 : missOf room 0 = 0 := by unfold missOf; split <;> omega
    rw [e1, e2]; exact h1
  case round =>
    obtain ⟨i, rfl, hi0, hik, HQ, hbel⟩ := hrel
    by_cases hlt : i < (n : Int)
    · have hd : decide (i < (n : Int)) = true := decide_eq_true hlt
      obtain ⟨gk, rfl⟩ : ∃ k, gk = k + 1 := ⟨gk - 1, by omega⟩
      have HA1 := HA.out.below hbel
      obtain ⟨ad, ead, hc⟩ := HA1.2 (by omega)
      cases ead
      have hk := hc i.toNat (by omega)
      have p0 : (0 ≤ i) = True := eq_true hi0
      have q0 : (i < (n : Int)) = True := eq_true hlt
      have HI := Aside0.mk (And.intro hi0 (And.intro hik hlt))
      have hss := HA.out.1
      obtain ⟨hn, hr0, hr1, hm⟩ := HN.out
      obtain ⟨f1, f2, f3⟩ := buf_next (ss := ss) (room := room) hi0 (by omega) hr0 hr1
      have F := Aside0.mk (And.intro f1 (f2 (by omega)))
      clear hi0 hik hlt hc HA1 f1 f2 hn hr0 hr1 hm hss
      by_cases hir : decide (i < room) = true
      all_goals (try replace hir := Bool.eq_false_iff.2 hir)
      all_goals (try (exact absurd (hir.symm.trans hd) (by decide)))
      all_goals rw [hir] at f3
      all_goals (go_wp2_with (go_at_call 8; refine (puts_calls HQ.out (ss.getD i.toNat {data := #[]})).mono ?_; rw [f3]; rintro _ w2 ⟨rfl, k2, h2⟩))
      all_goals (rw [F.out.1, F.out.2] at h2)
      all_goals (go_roundg gk)
      all_goals try (case measure => have := HI.out; omega)
      all_goals (have hI := HI.out; have hN := HN.out; refine ⟨i + 1, ?_, by omega, by omega, ⟨h2⟩, Keep.below hbel k2 hbel.size H1.out.1 H1.out.2.1⟩; first | rfl | (congr 1; first | omega | (rw [IntWalk.wrap64_in _ (by omega)])))
    · have hd : decide (i < (n : Int)) = false := decide_eq_false hlt
      obtain rfl : i = (n : Int) := by omega
      have hss := HA.out.1
      obtain ⟨hn, hr0, hr1, hm⟩ := HN.out
      have hL := buf_len (ss := ss) (room := room) (i := (n : Int)) (by omega)
      have hM : ((List.map Value.string (bufOf ss room (n : Int))).length : Int) = (n : Int) := by rw [List.length_map, hL]; omega
      have hmiss : missOf room (n : Int) = (n : Int) - (n : Int) := by unfold missOf; split <;> omega
      have hat : ∀ j : Nat, (j : Int) < (n : Int) → (bufOf ss room (n : Int)).getD j {data := #[]} = ss.getD j {data := #[]} := by
        intro j hj
        unfold bufOf
        rw [List.getD_eq_getElem?_getD, List.getD_eq_getElem?_getD, List.getElem?_take_of_lt (by omega)]
      have hl2 : (bufOf ss room (n : Int)).length = ((n : Int)).toNat := by omega
      obtain ⟨L, eL⟩ : ∃ L, L = bufOf ss room (n : Int) := ⟨_, rfl⟩
      rw [← eL] at HQ hM hat hl2
      rw [hmiss] at HQ
      have hw := IntWalk.i64_in ((n : Int) - (n : Int)) (by omega)
      have hM0 : 0 ≤ (n : Int) := by omega
      have hMn : (n : Int) ≤ (n : Int) := by omega
      have HM := Aside0.mk (And.intro hM0 (And.intro hMn (And.intro hat hl2)))
      clear hi0 hik hlt hL hmiss eL hss hn hr0 hr1 hat hl2 hM0 hMn
      go_wp2_with first | (go_at_call 9; refine (lens_calls HQ.out).mono ?_; rintro _ _ ⟨rfl, rfl⟩; rw [hM]) | (go_at_call 10; refine (misseds_calls HQ.out).mono ?_; rintro _ _ ⟨rfl, rfl⟩)
      go_loopg [8] ((n : Int)).toNat (fun kq v8 w' => ∃ (i : Int), v8 = .int .i64 i ∧ 0 ≤ i ∧ i + (kq : Int) = (n : Int) ∧ Aside0 (Qu w' q g (capOf room) ((L.drop i.toNat).map Value.string) ((n : Int) - (n : Int))) ∧ Below w.heap.size w w')
      case atStart =>
        exact ⟨0, rfl, by omega, by have := HM.out.1; omega, HQ, hbel⟩
      case round =>
        obtain ⟨i, rfl, hi0, hik, HQ2, hbel2⟩ := hrel
        by_cases hlt : i < (n : Int)
        · have hd2 : decide (i < (n : Int)) = true := decide_eq_true hlt
          obtain ⟨gk, rfl⟩ : ∃ k, gk = k + 1 := ⟨gk - 1, by omega⟩
          have HA1 := HA.out.below hbel2
          have hin : i < (n : Int) := by have := HM.out.2.1; omega
          obtain ⟨ad, ead, hc⟩ := HA1.2 (by omega)
          cases ead
          have HX := Aside0.mk (show i.toNat < n by omega)
          have p0 : (0 ≤ i) = True := eq_true hi0
          have q0 : (i < (n : Int)) = True := eq_true hin
          have hat := HM.out.2.2.1 i.toNat (by omega)
          have hl0 : decide (0 < (L.drop i.toNat).length) = true := decide_eq_true (by rw [List.length_drop, HM.out.2.2.2]; omega)
          have HI := Aside0.mk (And.intro hi0 (And.intro hik (And.intro hlt hat)))
          clear hi0 hik hlt hc HA1 hin hat
          go_wp2_with (go_at_call 11; refine (takes_calls HQ2.out).mono ?_; rw [hl0, head_drop, tail_drop, HI.out.2.2.2]; rintro _ w2 ⟨rfl, k2, h2⟩; have hk2 := HA.out.at_ (Keep.below hbel2 k2 hbel2.size H1.out.1 H1.out.2.1) i.toNat HX.out)
          go_roundg gk
          case measure => have := HI.out; omega
          case rel =>
            have hI := HI.out
            have hM := HM.out
            have hN := HN.out
            refine ⟨i + 1, ?_, by omega, by omega, ⟨?_⟩, Keep.below hbel2 k2 hbel2.size H1.out.1 H1.out.2.1⟩
            · congr 1; rw [IntWalk.wrap64_in _ (by omega)]
            · rw [show (i + 1).toNat = i.toNat + 1 by omega]; exact h2
        · have hd2 : decide (i < (n : Int)) = false := decide_eq_false hlt
          obtain rfl : (n : Int) = i := by omega
          have hnil : L.drop ((n : Int)).toNat = [] := List.drop_eq_nil_of_le (by rw [HM.out.2.2.2]; exact Nat.le_refl _)
          rw [hnil] at HQ2
          clear hi0 hik hlt
          go_wp2_with first | (go_at_call 11; refine (takes_calls HQ2.out).mono ?_; rintro _ w2 ⟨rfl, k2, h2⟩) | (go_at_call 6; refine (lives_calls _).mono ?_; rintro e w9 ⟨rfl, hB⟩)
          go_ret
          exact ⟨rfl, (Keep.below hbel2 k2 hbel2.size H1.out.1 H1.out.2.1).trans (hB.mono (Keep.below hbel2 k2 hbel2.size H1.out.1 H1.out.2.1).size)⟩

set_option maxRecDepth 100000 in
set_option maxHeartbeats 40000000 in
theorem order_gt (A : Option Addr) (n cp : Nat) (ss : List ByteArray) (room : Int) (w : World) (hn : n ≤ 200) (hr0 : 0 ≤ room) (hr1 : room ≤ 100) (hm : room < (n : Int)) (hA : StrsAt w A n ss) : Calls Try.prog 3 #[.slice A n cp, .int .i64 room] w fun e w' => e = .returned (.bool true) ∧ Below w.heap.size w w' := by
  have b0 : decide ((200 : Int) < (n : Int)) = false := decide_eq_false (by omega)
  have b1 : decide (room < (0 : Int)) = false := decide_eq_false (by omega)
  have b2 : decide ((100 : Int) < room) = false := decide_eq_false (by omega)
  have HA := Aside0.mk hA
  have HN := Aside0.mk (And.intro hn (And.intro hr0 (And.intro hr1 hm)))
  clear hA hn hr0 hr1 hm
  go_enter Try.func3, Try.ntmps3
  go_wp2_with (go_at_call 7; refine (news_calls _ w).mono ?_; rintro _ w1 ⟨q, g, hq, hg, rfl, h1, hb1⟩)
  have H1 := Aside0.mk (And.intro hq (And.intro hg (And.intro h1 hb1)))
  clear hq hg h1 hb1
  go_loopg [6] n (fun kq v6 w' => ∃ (i : Int), v6 = .int .i64 i ∧ 0 ≤ i ∧ i + (kq : Int) = n ∧ Aside0 (Qu w' q g (capOf room) ((bufOf ss room i).map Value.string) (missOf room i)) ∧ Below w.heap.size w w')
  case atStart =>
    obtain ⟨hq, hg, h1, hb1⟩ := H1.out
    obtain ⟨hn, hr0, hr1, hm⟩ := HN.out
    refine ⟨0, rfl, by omega, by omega, ⟨?_⟩, hb1⟩
    have e1 : bufOf ss room 0 = [] := by unfold bufOf; simp
    have e2 : missOf room 0 = 0 := by unfold missOf; split <;> omega
    rw [e1, e2]; exact h1
  case round =>
    obtain ⟨i, rfl, hi0, hik, HQ, hbel⟩ := hrel
    by_cases hlt : i < (n : Int)
    · have hd : decide (i < (n : Int)) = true := decide_eq_true hlt
      obtain ⟨gk, rfl⟩ : ∃ k, gk = k + 1 := ⟨gk - 1, by omega⟩
      have HA1 := HA.out.below hbel
      obtain ⟨ad, ead, hc⟩ := HA1.2 (by omega)
      cases ead
      have hk := hc i.toNat (by omega)
      have p0 : (0 ≤ i) = True := eq_true hi0
      have q0 : (i < (n : Int)) = True := eq_true hlt
      have HI := Aside0.mk (And.intro hi0 (And.intro hik hlt))
      have hss := HA.out.1
      obtain ⟨hn, hr0, hr1, hm⟩ := HN.out
      obtain ⟨f1, f2, f3⟩ := buf_next (ss := ss) (room := room) hi0 (by omega) hr0 hr1
      have F := Aside0.mk (And.intro f1 (f2 (by omega)))
      clear hi0 hik hlt hc HA1 f1 f2 hn hr0 hr1 hm hss
      by_cases hir : decide (i < room) = true
      all_goals (try replace hir := Bool.eq_false_iff.2 hir)
      all_goals (try (exact absurd (hir.symm.trans hd) (by decide)))
      all_goals rw [hir] at f3
      all_goals (go_wp2_with (go_at_call 8; refine (puts_calls HQ.out (ss.getD i.toNat {data := #[]})).mono ?_; rw [f3]; rintro _ w2 ⟨rfl, k2, h2⟩))
      all_goals (rw [F.out.1, F.out.2] at h2)
      all_goals (go_roundg gk)
      all_goals try (case measure => have := HI.out; omega)
      all_goals (have hI := HI.out; have hN := HN.out; refine ⟨i + 1, ?_, by omega, by omega, ⟨h2⟩, Keep.below hbel k2 hbel.size H1.out.1 H1.out.2.1⟩; first | rfl | (congr 1; first | omega | (rw [IntWalk.wrap64_in _ (by omega)])))
    · have hd : decide (i < (n : Int)) = false := decide_eq_false hlt
      obtain rfl : i = (n : Int) := by omega
      have hss := HA.out.1
      obtain ⟨hn, hr0, hr1, hm⟩ := HN.out
      have hL := buf_len (ss := ss) (room := room) (i := (n : Int)) (by omega)
      have hM : ((List.map Value.string (bufOf ss room (n : Int))).length : Int) = room := by rw [List.length_map, hL]; omega
      have hmiss : missOf room (n : Int) = (n : Int) - room := by unfold missOf; split <;> omega
      have hat : ∀ j : Nat, (j : Int) < room → (bufOf ss room (n : Int)).getD j {data := #[]} = ss.getD j {data := #[]} := by
        intro j hj
        unfold bufOf
        rw [List.getD_eq_getElem?_getD, List.getD_eq_getElem?_getD, List.getElem?_take_of_lt (by omega)]
      have hl2 : (bufOf ss room (n : Int)).length = (room).toNat := by omega
      obtain ⟨L, eL⟩ : ∃ L, L = bufOf ss room (n : Int) := ⟨_, rfl⟩
      rw [← eL] at HQ hM hat hl2
      rw [hmiss] at HQ
      have hw := IntWalk.i64_in ((n : Int) - room) (by omega)
      have hM0 : 0 ≤ room := by omega
      have hMn : room ≤ (n : Int) := by omega
      have HM := Aside0.mk (And.intro hM0 (And.intro hMn (And.intro hat hl2)))
      clear hi0 hik hlt hL hmiss eL hss hn hr0 hr1 hat hl2 hM0 hMn
      go_wp2_with first | (go_at_call 9; refine (lens_calls HQ.out).mono ?_; rintro _ _ ⟨rfl, rfl⟩; rw [hM]) | (go_at_call 10; refine (misseds_calls HQ.out).mono ?_; rintro _ _ ⟨rfl, rfl⟩)
      go_loopg [8] (room).toNat (fun kq v8 w' => ∃ (i : Int), v8 = .int .i64 i ∧ 0 ≤ i ∧ i + (kq : Int) = room ∧ Aside0 (Qu w' q g (capOf room) ((L.drop i.toNat).map Value.string) ((n : Int) - room)) ∧ Below w.heap.size w w')
      case atStart =>
        exact ⟨0, rfl, by omega, by have := HM.out.1; omega, HQ, hbel⟩
      case round =>
        obtain ⟨i, rfl, hi0, hik, HQ2, hbel2⟩ := hrel
        by_cases hlt : i < room
        · have hd2 : decide (i < room) = true := decide_eq_true hlt
          obtain ⟨gk, rfl⟩ : ∃ k, gk = k + 1 := ⟨gk - 1, by omega⟩
          have HA1 := HA.out.below hbel2
          have hin : i < (n : Int) := by have := HM.out.2.1; omega
          obtain ⟨ad, ead, hc⟩ := HA1.2 (by omega)
          cases ead
          have HX := Aside0.mk (show i.toNat < n by omega)
          have p0 : (0 ≤ i) = True := eq_true hi0
          have q0 : (i < (n : Int)) = True := eq_true hin
          have hat := HM.out.2.2.1 i.toNat (by omega)
          have hl0 : decide (0 < (L.drop i.toNat).length) = true := decide_eq_true (by rw [List.length_drop, HM.out.2.2.2]; omega)
          have HI := Aside0.mk (And.intro hi0 (And.intro hik (And.intro hlt hat)))
          clear hi0 hik hlt hc HA1 hin hat
          go_wp2_with (go_at_call 11; refine (takes_calls HQ2.out).mono ?_; rw [hl0, head_drop, tail_drop, HI.out.2.2.2]; rintro _ w2 ⟨rfl, k2, h2⟩; have hk2 := HA.out.at_ (Keep.below hbel2 k2 hbel2.size H1.out.1 H1.out.2.1) i.toNat HX.out)
          go_roundg gk
          case measure => have := HI.out; omega
          case rel =>
            have hI := HI.out
            have hM := HM.out
            have hN := HN.out
            refine ⟨i + 1, ?_, by omega, by omega, ⟨?_⟩, Keep.below hbel2 k2 hbel2.size H1.out.1 H1.out.2.1⟩
            · congr 1; rw [IntWalk.wrap64_in _ (by omega)]
            · rw [show (i + 1).toNat = i.toNat + 1 by omega]; exact h2
        · have hd2 : decide (i < room) = false := decide_eq_false hlt
          obtain rfl : room = i := by omega
          have hnil : L.drop (room).toNat = [] := List.drop_eq_nil_of_le (by rw [HM.out.2.2.2]; exact Nat.le_refl _)
          rw [hnil] at HQ2
          clear hi0 hik hlt
          go_wp2_with first | (go_at_call 11; refine (takes_calls HQ2.out).mono ?_; rintro _ w2 ⟨rfl, k2, h2⟩) | (go_at_call 6; refine (lives_calls _).mono ?_; rintro e w9 ⟨rfl, hB⟩)
          go_ret
          exact ⟨rfl, (Keep.below hbel2 k2 hbel2.size H1.out.1 H1.out.2.1).trans (hB.mono (Keep.below hbel2 k2 hbel2.size H1.out.1 H1.out.2.1).size)⟩

set_option maxRecDepth 100000 in
set_option maxHeartbeats 40000000 in
theorem order_eq (A : Option Addr) (n cp : Nat) (ss : List ByteArray) (room : Int) (w : World) (hn : n ≤ 200) (hr0 : 0 ≤ room) (hr1 : room ≤ 100) (hm : room = (n : Int)) (hA : StrsAt w A n ss) : Calls Try.prog 3 #[.slice A n cp, .int .i64 room] w fun e w' => e = .returned (.bool true) ∧ Below w.heap.size w w' := by
  subst hm
  have hm : True := trivial
  have b0 : decide ((200 : Int) < (n : Int)) = false := decide_eq_false (by omega)
  have b1 : decide ((n : Int) < (0 : Int)) = false := decide_eq_false (by omega)
  have b2 : decide ((100 : Int) < (n : Int)) = false := decide_eq_false (by omega)
  have HA := Aside0.mk hA
  have HN := Aside0.mk (And.intro hn (And.intro hr0 (And.intro hr1 hm)))
  clear hA hn hr0 hr1 hm
  go_enter Try.func3, Try.ntmps3
  go_wp2_with (go_at_call 7; refine (news_calls _ w).mono ?_; rintro _ w1 ⟨q, g, hq, hg, rfl, h1, hb1⟩)
  have H1 := Aside0.mk (And.intro hq (And.intro hg (And.intro h1 hb1)))
  clear hq hg h1 hb1
  go_loopg [6] n (fun kq v6 w' => ∃ (i : Int), v6 = .int .i64 i ∧ 0 ≤ i ∧ i + (kq : Int) = n ∧ Aside0 (Qu w' q g (capOf (n : Int)) ((bufOf ss (n : Int) i).map Value.string) (missOf (n : Int) i)) ∧ Below w.heap.size w w')
  case atStart =>
    obtain ⟨hq, hg, h1, hb1⟩ := H1.out
    obtain ⟨hn, hr0, hr1, hm⟩ := HN.out
    refine ⟨0, rfl, by omega, by omega, ⟨?_⟩, hb1⟩
    have e1 : bufOf ss (n : Int) 0 = [] := by unfold bufOf; simp
    have e2 : missOf (n : Int) 0 = 0 := by unfold missOf; split <;> omega
    rw [e1, e2]; exact h1
  case round =>
    obtain ⟨i, rfl, hi0, hik, HQ, hbel⟩ := hrel
    by_cases hlt : i < (n : Int)
    · have hd : decide (i < (n : Int)) = true := decide_eq_true hlt
      obtain ⟨gk, rfl⟩ : ∃ k, gk = k + 1 := ⟨gk - 1, by omega⟩
      have HA1 := HA.out.below hbel
      obtain ⟨ad, ead, hc⟩ := HA1.2 (by omega)
      cases ead
      have hk := hc i.toNat (by omega)
      have p0 : (0 ≤ i) = True := eq_true hi0
      have q0 : (i < (n : Int)) = True := eq_true hlt
      have HI := Aside0.mk (And.intro hi0 (And.intro hik hlt))
      have hss := HA.out.1
      obtain ⟨hn, hr0, hr1, hm⟩ := HN.out
      obtain ⟨f1, f2, f3⟩ := buf_next (ss := ss) (room := (n : Int)) hi0 (by omega) hr0 hr1
      have F := Aside0.mk (And.intro f1 (f2 (by omega)))
      clear hi0 hik hlt hc HA1 f1 f2 hn hr0 hr1 hm hss
      by_cases hir : decide (i < (n : Int)) = true
      all_goals (try replace hir := Bool.eq_false_iff.2 hir)
      all_goals (try (exact absurd (hir.symm.trans hd) (by decide)))
      all_goals rw [hir] at f3
      all_goals (go_wp2_with (go_at_call 8; refine (puts_calls HQ.out (ss.getD i.toNat {data := #[]})).mono ?_; rw [f3]; rintro _ w2 ⟨rfl, k2, h2⟩))
      all_goals (rw [F.out.1, F.out.2] at h2)
      all_goals (go_roundg gk)
      all_goals try (case measure => have := HI.out; omega)
      all_goals (have hI := HI.out; have hN := HN.out; refine ⟨i + 1, ?_, by omega, by omega, ⟨h2⟩, Keep.below hbel k2 hbel.size H1.out.1 H1.out.2.1⟩; first | rfl | (congr 1; first | omega | (rw [IntWalk.wrap64_in _ (by omega)])))
    · have hd : decide (i < (n : Int)) = false := decide_eq_false hlt
      obtain rfl : i = (n : Int) := by omega
      have hss := HA.out.1
      obtain ⟨hn, hr0, hr1, hm⟩ := HN.out
      have hL := buf_len (ss := ss) (room := (n : Int)) (i := (n : Int)) (by omega)
      have hM : ((List.map Value.string (bufOf ss (n : Int) (n : Int))).length : Int) = (n : Int) := by rw [List.length_map, hL]; omega
      have hmiss : missOf (n : Int) (n : Int) = (n : Int) - (n : Int) := by unfold missOf; split <;> omega
      have hat : ∀ j : Nat, (j : Int) < (n : Int) → (bufOf ss (n : Int) (n : Int)).getD j {data := #[]} = ss.getD j {data := #[]} := by
        intro j hj
        unfold bufOf
        rw [List.getD_eq_getElem?_getD, List.getD_eq_getElem?_getD, List.getElem?_take_of_lt (by omega)]
      have hl2 : (bufOf ss (n : Int) (n : Int)).length = ((n : Int)).toNat := by omega
      obtain ⟨L, eL⟩ : ∃ L, L = bufOf ss (n : Int) (n : Int) := ⟨_, rfl⟩
      rw [← eL] at HQ hM hat hl2
      rw [hmiss] at HQ
      have hw := IntWalk.i64_in ((n : Int) - (n : Int)) (by omega)
      have hM0 : 0 ≤ (n : Int) := by omega
      have hMn : (n : Int) ≤ (n : Int) := by omega
      have HM := Aside0.mk (And.intro hM0 (And.intro hMn (And.intro hat hl2)))
      clear hi0 hik hlt hL hmiss eL hss hn hr0 hr1 hat hl2 hM0 hMn
      go_wp2_with first | (go_at_call 9; refine (lens_calls HQ.out).mono ?_; rintro _ _ ⟨rfl, rfl⟩; rw [hM]) | (go_at_call 10; refine (misseds_calls HQ.out).mono ?_; rintro _ _ ⟨rfl, rfl⟩)
      go_loopg [8] ((n : Int)).toNat (fun kq v8 w' => ∃ (i : Int), v8 = .int .i64 i ∧ 0 ≤ i ∧ i + (kq : Int) = (n : Int) ∧ Aside0 (Qu w' q g (capOf (n : Int)) ((L.drop i.toNat).map Value.string) ((n : Int) - (n : Int))) ∧ Below w.heap.size w w')
      case atStart =>
        exact ⟨0, rfl, by omega, by have := HM.out.1; omega, HQ, hbel⟩
      case round =>
        obtain ⟨i, rfl, hi0, hik, HQ2, hbel2⟩ := hrel
        by_cases hlt : i < (n : Int)
        · have hd2 : decide (i < (n : Int)) = true := decide_eq_true hlt
          obtain ⟨gk, rfl⟩ : ∃ k, gk = k + 1 := ⟨gk - 1, by omega⟩
          have HA1 := HA.out.below hbel2
          have hin : i < (n : Int) := by have := HM.out.2.1; omega
          obtain ⟨ad, ead, hc⟩ := HA1.2 (by omega)
          cases ead
          have HX := Aside0.mk (show i.toNat < n by omega)
          have p0 : (0 ≤ i) = True := eq_true hi0
          have q0 : (i < (n : Int)) = True := eq_true hin
          have hat := HM.out.2.2.1 i.toNat (by omega)
          have hl0 : decide (0 < (L.drop i.toNat).length) = true := decide_eq_true (by rw [List.length_drop, HM.out.2.2.2]; omega)
          have HI := Aside0.mk (And.intro hi0 (And.intro hik (And.intro hlt hat)))
          clear hi0 hik hlt hc HA1 hin hat
          go_wp2_with (go_at_call 11; refine (takes_calls HQ2.out).mono ?_; rw [hl0, head_drop, tail_drop, HI.out.2.2.2]; rintro _ w2 ⟨rfl, k2, h2⟩; have hk2 := HA.out.at_ (Keep.below hbel2 k2 hbel2.size H1.out.1 H1.out.2.1) i.toNat HX.out)
          go_roundg gk
          case measure => have := HI.out; omega
          case rel =>
            have hI := HI.out
            have hM := HM.out
            have hN := HN.out
            refine ⟨i + 1, ?_, by omega, by omega, ⟨?_⟩, Keep.below hbel2 k2 hbel2.size H1.out.1 H1.out.2.1⟩
            · congr 1; rw [IntWalk.wrap64_in _ (by omega)]
            · rw [show (i + 1).toNat = i.toNat + 1 by omega]; exact h2
        · have hd2 : decide (i < (n : Int)) = false := decide_eq_false hlt
          obtain rfl : (n : Int) = i := by omega
          have hnil : L.drop ((n : Int)).toNat = [] := List.drop_eq_nil_of_le (by rw [HM.out.2.2.2]; exact Nat.le_refl _)
          rw [hnil] at HQ2
          clear hi0 hik hlt
          go_wp2_with first | (go_at_call 11; refine (takes_calls HQ2.out).mono ?_; rintro _ w2 ⟨rfl, k2, h2⟩) | (go_at_call 6; refine (lives_calls _).mono ?_; rintro e w9 ⟨rfl, hB⟩)
          go_ret
          exact ⟨rfl, (Keep.below hbel2 k2 hbel2.size H1.out.1 H1.out.2.1).trans (hB.mono (Keep.below hbel2 k2 hbel2.size H1.out.1 H1.out.2.1).size)⟩

theorem order_walk (A : Option Addr) (n cp : Nat) (ss : List ByteArray) (room : Int) (w : World) (hA : StrsAt w A n ss) : Calls Try.prog 3 #[.slice A n cp, .int .i64 room] w fun e w' => e = .returned (.bool true) ∧ Below w.heap.size w w' := by
  by_cases h0 : 200 < (n : Int)
  · exact order_long A n cp room w h0
  by_cases h1 : room < 0
  · exact order_low A n cp room w ⟨by omega, h1⟩
  by_cases h2 : 100 < room
  · exact order_high A n cp room w ⟨by omega, h2⟩
  rcases (show (n : Int) < room ∨ room < (n : Int) ∨ room = (n : Int) by omega) with h | h | h
  · exact order_lt A n cp ss room w (by omega) (by omega) (by omega) h hA
  · exact order_gt A n cp ss room w (by omega) (by omega) (by omega) h hA
  · exact order_eq A n cp ss room w (by omega) (by omega) (by omega) h hA

end Go.Proofs.Ytccnfckogcdpcaa.X

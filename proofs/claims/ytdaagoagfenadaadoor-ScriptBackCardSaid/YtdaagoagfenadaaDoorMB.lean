/- Contracts of the layers 30 and 31, and plain facts on texts, one behind the other: script.head, join, Line: contracts by hand. Conditions: bounds on lengths. | script.Entry: contract by hand. Conditions: a bound on the text's length. | (*strings.Builder).copyCheck and WriteString, at a Builder of the call's own. Conditions: none. | A range over an iterator that keeps its place in a variable of its own (strings.Lines): the law for the caller. Conditions: none. | strings.Lines: what its iterator hands on. Conditions: none. | script.Line in the print's form. Conditions: none. -/
import Derived.Test.YtdaagoagfenadaaDoorMA
import Derived.Test.YtdaagoagfenadaaDoorShelf
import Derived.Lib.IndexMore
import Derived.WalkKit
import Derived.Lib.Strings
import Derived.Lib.Slices
import Derived.Lib.Walk
import Derived.Lib.Builder
import Derived.Lib.AppendStr
import Derived.Lib.UnsafeStr
import Derived.Lib.MakeNoZero
import Derived.Laws.Externs
import Derived.Laws.IdiomCopy
import Derived.Laws.BitsLemmas
import Derived.RangeFuncNested
import Derived.RangeFuncBound
import Derived.RangeFuncCalls
import Derived.RangeFuncLeaves
import Derived.RangeFuncFrom
import Derived.Shelf.Abstract
import Derived.Shelf.RegionOpen
import Derived.OwnWalkIn
import Derived.TacticsInMore
import Derived.LoopNIn
import Derived.LoopIn
import Derived.Lib.IndexLaws
namespace Go.Proofs.YtdaagoagfenadaaDoor.X
open Go.RowKit Go.Proofs.YtdaagoagfenadaaDoor.YAll Go.Proofs.YtdaagoagfenadaaDoorW.PrintWords Go.Proofs.YtdaagoagfenadaaDoorW.PrintLast Go.Proofs.YtdaagoagfenadaaDoorW.PrintMore
set_option linter.unusedVariables false
set_option linter.unusedSimpArgs false
theorem cut_B : ∀ l : List UInt8, ((Lib.cut l [32]).1, (Lib.cut l [32]).2.1) = cutB l := by
  have key : ∀ l : List UInt8, (Lib.indexByte l 32 = -1 → cutB l = (l, [])) ∧ (∀ o : Nat, Lib.indexByte l 32 = (o : Int) → cutB l = (l.take o, l.drop (o + 1))) := by
    intro l
    induction l with
    | nil => exact ⟨fun _ => rfl, fun o h => by unfold Lib.indexByte at h; omega⟩
    | cons c r ih =>
      obtain ⟨i1, i2⟩ := ih
      by_cases hc : c = 32
      · subst hc
        have e : Lib.indexByte (32 :: r) 32 = 0 := by unfold Lib.indexByte; rw [if_pos (by rfl)]
        rw [e]
        refine ⟨fun h => by omega, fun o h => ?_⟩
        obtain rfl : o = 0 := by omega
        unfold cutB
        rw [if_pos rfl]
        rfl
      · have e : Lib.indexByte (c :: r) 32 = if Lib.indexByte r 32 == -1 then -1 else Lib.indexByte r 32 + 1 := by
          conv => lhs; unfold Lib.indexByte
          rw [if_neg (by simpa using hc)]
        rw [e]
        have hge := Lib.indexByte_ge r 32
        by_cases h2 : (Lib.indexByte r 32 == -1) = true
        · rw [if_pos h2]
          have h3 : Lib.indexByte r 32 = -1 := by simpa using h2
          refine ⟨fun _ => ?_, fun o h => by omega⟩
          unfold cutB
          rw [if_neg hc, i1 h3]
        · rw [if_neg h2]
          have h3 : Lib.indexByte r 32 ≠ -1 := by simpa using h2
          refine ⟨fun h => by omega, fun o h => ?_⟩
          obtain ⟨p, rfl⟩ : ∃ p, o = p + 1 := ⟨o - 1, by omega⟩
          unfold cutB
          rw [if_neg hc, i2 p (by omega)]
          rfl
  intro l
  obtain ⟨k1, k2⟩ := key l
  unfold Lib.cut
  rw [Lib.index_one]
  by_cases h : 0 ≤ Lib.indexByte l 32
  · rw [if_pos h, k2 (Lib.indexByte l 32).toNat (by omega)]
    rfl
  · rw [if_neg h, k1 (by have := Lib.indexByte_ge l 32; omega)]
theorem drewN_below {w w' : World} (h : ∃ n, w' = w.drewN n) : Below w.heap.size w w' := by
  obtain ⟨n, rfl⟩ := h
  exact pw_below_drewN (Below.refl _ _) n
theorem cut_calls (l a b : List UInt8) (w : World) (hm : Mx w) (hl : l.length ≤ 2000000) (h : cutB l = (a, b)) : ∃ f : Bool, Calls Tryd.prog 44 #[.string (bs l), .string ⟨#[32]⟩] w fun e w' => e = .returned (.tuple #[.string (bs a), .string (bs b), .bool f]) ∧ Below w.heap.size w w' := by
  obtain ⟨m, hm⟩ := hm
  have hc := cut_B l
  rw [h] at hc
  have e1 : (Lib.cut l [32]).1 = a := congrArg Prod.fst hc
  have e2 : (Lib.cut l [32]).2.1 = b := congrArg Prod.snd hc
  refine ⟨(Lib.cut l [32]).2.2, (Tryd.strings_Cut (bs l) ⟨#[32]⟩ m w (by rw [bs_size]; omega) hm).mono fun e w' ⟨he, hd⟩ => ⟨?_, drewN_below hd⟩⟩
  rw [he]
  show Ending.returned (.tuple #[.string (bs (Lib.cut l [32]).1), .string (bs (Lib.cut l [32]).2.1), _]) = _
  rw [e1, e2]
  rfl
theorem head_calls (l a b : List UInt8) (w : World) (hm : Mx w) (hl : l.length ≤ 2000000) (h : cutB l = (a, b)) : Calls Tryd.prog 27 #[.string (bs l)] w fun e w' => e = .returned (.tuple #[.string (bs a), .string (bs b)]) ∧ Below w.heap.size w w' := by
  obtain ⟨f, hf⟩ := cut_calls l a b w hm hl h
  go_enter Tryd.func27, Tryd.ntmps27
  go_wp2_with (go_at_call 44; (with_reducible refine hf.mono ?_); rintro e w1 ⟨rfl, hB⟩)
  go_ret2
  exact ⟨rfl, hB⟩
theorem join3_calls (a b c : List UInt8) (g : Nat) (w : World) (hg : w.heap[g]? = some (.cells #[.string (bs a), .string (bs b), .string (bs c)] 9)) (hlen : a.length + b.length + c.length ≤ 1000000) :
    Calls Tryd.prog 23 #[.slice (some ⟨g, 0, none⟩) 3 3] w fun e w' => e = .returned (.string (bs (jn [a, b, c]))) ∧ Below w.heap.size w w' := by
  have hl : ([a, b, c].map bs).map (·.data.toList) = [a, b, c] := rfl
  have hj := Tryd.strings_Join g 0 3 ([a, b, c].map bs) ⟨#[32]⟩ w (fun j x hx => by
    rw [Nat.zero_add, blk_cell hg]
    match j, hx with
    | 0, hx => injection hx with hx; subst hx; rfl
    | 1, hx => injection hx with hx; subst hx; rfl
    | 2, hx => injection hx with hx; subst hx; rfl) (blk_lt hg) (by simp) (by simp) (by
      rw [hl]
      show (Lib.join [a, b, c] [32]).length ≤ _
      rw [jns_join]
      show (a ++ 32 :: (b ++ 32 :: c)).length ≤ _
      simp only [List.length_append, List.length_cons]
      omega)
  rw [hl] at hj
  have e3 : (⟨(Lib.join [a, b, c] (ByteArray.data ⟨#[32]⟩).toList).toArray⟩ : ByteArray) = bs (jn [a, b, c]) := by
    show bs (Lib.join [a, b, c] [32]) = _
    rw [jns_join]
  rw [e3] at hj
  have hj2 : Calls Tryd.prog 38 #[.slice (some ⟨g, 0, none⟩) 3 3, .string ⟨#[32]⟩] w fun e w' => e = .returned (.string (bs (jn [a, b, c]))) ∧ Below w.heap.size w w' := hj
  clear hj
  go_enter Tryd.func23, Tryd.ntmps23
  go_wp2_with (go_at_call 38; (with_reducible refine hj2.mono ?_); rintro e w1 ⟨rfl, hB⟩)
  go_ret
  exact ⟨rfl, hB⟩
/-- At block b lies an entry. -/
def EntAt (w : World) (b : Nat) (c : List Int) : Prop := w.heap[b]? = some (.cells (c.map (Value.int .i64)).toArray 25)
theorem EntAt.below {w w' : World} {b : Nat} {c : List Int} (h : EntAt w b c) (hb : Below w.heap.size w w') : EntAt w' b c := blk_below h hb
theorem EntAt.alloc {w : World} {b : Nat} {c : List Int} (h : EntAt w b c) (o : Obj) : EntAt (w.alloc o) b c := blk_alloc h o
theorem call_to (c : List Int) (t : List UInt8) (f : Int) (kd a s al v : Int) (w : World) (he : c = [kd, a, s, al, v]) (hc : ∀ x ∈ c, In64 x) (h : callT c = (t, f)) : Calls Tryd.prog 24 #[.agg #[.int .i64 kd, .int .i64 a, .int .i64 s, .int .i64 al, .int .i64 v]] w fun e w' => e = .returned (.tuple #[.string (bs t), .int .i64 f]) ∧ Below w.heap.size w w' := by
  subst he
  have h2 := call_calls kd a s al v w hc
  unfold CallPost at h2
  rw [h] at h2
  exact h2
theorem parse_to (l : List UInt8) (a b c d e f : Int) (w : World) (hm : Mx w) (hl : l.length ≤ 2000000) (h : parseT l = ([a, b, c, d, e], f)) : Calls Tryd.prog 29 #[.string (bs l)] w fun z w' => z = .returned (.tuple #[.agg #[.int .i64 a, .int .i64 b, .int .i64 c, .int .i64 d, .int .i64 e], .int .i64 f]) ∧ Below w.heap.size w w' := by
  have h2 := parse_calls l w hm hl
  rw [h] at h2
  exact h2
theorem read_to (l : List UInt8) (v : Int) (b : Bool) (w : World) (h : rdV l = (v, b)) : Calls Tryd.prog 28 #[.string (bs l)] w fun e w' => e = .returned (.tuple #[.int .i64 v, .bool b]) ∧ Below w.heap.size w w' := by
  have := read_calls l w
  unfold ReadPost at this
  rw [h] at this
  exact this
theorem callT_len (c : List Int) (hc : ∀ x ∈ c, In64 x) : (callT c).1.length ≤ 63 := by
  rcases call_back c hc with h | ⟨_, h, _⟩
  · rw [h]; decide
  · exact h
set_option maxRecDepth 100000 in
set_option maxHeartbeats 20000000 in
theorem line_calls (kd wk nm c0 c1 c2 c3 c4 : Int) (w : World) (hI : ∀ x ∈ [kd, wk, nm, c0, c1, c2, c3, c4], In64 x) :
    Calls Tryd.prog 8 #[.agg #[.int .i64 kd, .int .i64 wk, .int .i64 nm, .int .i64 c0, .int .i64 c1, .int .i64 c2, .int .i64 c3, .int .i64 c4]] w fun e w' => e = .returned (.tuple #[.string (bs (lineT kd wk nm [c0, c1, c2, c3, c4]).1), .int .i64 (lineT kd wk nm [c0, c1, c2, c3, c4]).2]) ∧ Below w.heap.size w w' := by
  have HI := Aside0.mk hI
  have hwk : In64 wk := hI wk (by simp)
  have hnm : In64 nm := hI nm (by simp)
  have HW := Aside0.mk (And.intro hwk hnm)
  clear hI hwk hnm
  go_enter Tryd.func8, Tryd.ntmps8
  have BX : EntAt (w.alloc (Obj.cells #[.int .i64 kd, .int .i64 wk, .int .i64 nm, .int .i64 c0, .int .i64 c1, .int .i64 c2, .int .i64 c3, .int .i64 c4] 25)) w.heap.size [kd, wk, nm, c0, c1, c2, c3, c4] := blk_new w _
  have BB := ballo (Below.refl w.heap.size w) (Obj.cells #[.int .i64 kd, .int .i64 wk, .int .i64 nm, .int .i64 c0, .int .i64 c1, .int .i64 c2, .int .i64 c3, .int .i64 c4] 25)
  go_upto_region 1 with fail
  generalize w.alloc (Obj.cells #[.int .i64 kd, .int .i64 wk, .int .i64 nm, .int .i64 c0, .int .i64 c1, .int .i64 c2, .int .i64 c3, .int .i64 c4] 25) = w1 at *
  have HX := Aside0.mk BX
  have HB := Aside0.mk BB
  clear BX BB
  go_cut [4, 5] (fun s4 s5 wx => s4 = .string (bs (numL wk)) ∧ s5 = .string (bs (numL nm)) ∧ Aside0 (Below w1.heap.size w1 wx))
  case first =>
    have KS : Aside0 (∀ w', Below w1.heap.size w1 w' → (fun w' => w'.cell? ⟨w.heap.size, 1, none⟩ = some (.int .i64 wk) ∧ w'.cell? ⟨w.heap.size, 2, none⟩ = some (.int .i64 nm)) w') := ⟨fun w' hb => ⟨blk_cell (HX.out.below hb) 1, blk_cell (HX.out.below hb) 2⟩⟩
    have HBW := Aside0.mk (below_drew (Below.refl w1.heap.size w1))
    go_region_held3 (fun w' => w'.cell? ⟨w.heap.size, 1, none⟩ = some (.int .i64 wk) ∧ w'.cell? ⟨w.heap.size, 2, none⟩ = some (.int .i64 nm))
      (first | (with_reducible exact KS.out _ HBW.out) | (with_reducible exact KS.out _ hX.out) | (with_reducible exact KS.out _ hY.out))
      (first
        | (go_at_call 22; (with_reducible refine (num_calls wk _ HW.out.1).mono ?_); rintro e w2 ⟨rfl, hB2⟩; first | (have hY := Aside0.mk (bthen hX.out hB2)) | (have hX := Aside0.mk (bthen HBW.out hB2)))
        | (go_at_call 22; (with_reducible refine (num_calls nm _ HW.out.2).mono ?_); rintro e w2 ⟨rfl, hB2⟩; first | (have hY := Aside0.mk (bthen hX.out hB2)) | (have hX := Aside0.mk (bthen HBW.out hB2))))
    all_goals
      go_wp2_with fail
      go_meet
      exact ⟨rfl, rfl, hY⟩
  case rest =>
  obtain ⟨x2, rfl⟩ : ∃ x : World, x = wc := ⟨_, rfl⟩
  obtain ⟨rfl, rfl, HB2⟩ := hcut
  have HE := Aside0.mk (HX.out.below HB2.out)
  obtain ⟨z0, z1, z2, z3, z4, z5, z6, z7⟩ : _ ∧ _ ∧ _ ∧ _ ∧ _ ∧ _ ∧ _ ∧ _ := ⟨blk_cell HE.out 0, blk_cell HE.out 1, blk_cell HE.out 2, blk_cell HE.out 3, blk_cell HE.out 4, blk_cell HE.out 5, blk_cell HE.out 6, blk_cell HE.out 7⟩
  go_upto_region 2 with fail
  obtain ⟨st, hst⟩ : ∃ st, decide ([c0, c1, c2, c3, c4] = zero5) = st := ⟨_, rfl⟩
  have HST := Aside0.mk hst
  clear hst
  go_cut [6] (fun s6 wy => s6 = .bool st ∧ x2 = wy)
  case first =>
    by_cases e0 : c0 = 0
    · have d0 := eq_true e0
      clear e0
      by_cases e1 : c1 = 0
      · have d1 := eq_true e1
        clear e1
        by_cases e2 : c2 = 0
        · have d2 := eq_true e2
          clear e2
          by_cases e3 : c3 = 0
          · have d3 := eq_true e3
            clear e3
            by_cases e4 : c4 = 0
            · have d4 := eq_true e4
              clear e4
              go_wp2_with fail
              go_meet
              exact ⟨by rw [← HST.out]; simp [zero5, d0, d1, d2, d3, d4], rfl⟩
            · have d4 := eq_false e4
              clear e4
              go_wp2_with fail
              go_meet
              exact ⟨by rw [← HST.out]; simp [zero5, d0, d1, d2, d3, d4], rfl⟩
          · have d3 := eq_false e3
            clear e3
            go_wp2_with fail
            go_meet
            exact ⟨by rw [← HST.out]; simp [zero5, d0, d1, d2, d3], rfl⟩
        · have d2 := eq_false e2
          clear e2
          go_wp2_with fail
          go_meet
          exact ⟨by rw [← HST.out]; simp [zero5, d0, d1, d2], rfl⟩
      · have d1 := eq_false e1
        clear e1
        go_wp2_with fail
        go_meet
        exact ⟨by rw [← HST.out]; simp [zero5, d0, d1], rfl⟩
    · have d0 := eq_false e0
      clear e0
      go_wp2_with fail
      go_meet
      exact ⟨by rw [← HST.out]; simp [zero5, d0], rfl⟩
  case rest =>
  obtain ⟨rfl, rfl⟩ := hcut
  obtain ⟨z0, z1, z2, z3, z4, z5, z6, z7⟩ : _ ∧ _ ∧ _ ∧ _ ∧ _ ∧ _ ∧ _ ∧ _ := ⟨blk_cell HE.out 0, blk_cell HE.out 1, blk_cell HE.out 2, blk_cell HE.out 3, blk_cell HE.out 4, blk_cell HE.out 5, blk_cell HE.out 6, blk_cell HE.out 7⟩
  cases st with
  | true =>
    by_cases hkd0 : kd = 0
    · have qkd0 : (kd == 0) = true := by simpa using hkd0
      have HK := Aside0.mk hkd0
      clear hkd0
      have qkd2 : (kd == 2) = false := by rw [HK.out]; rfl
      have qkd1 : (kd == 1) = false := by rw [HK.out]; rfl
      have HLEN : Aside0 ((stepW).length + (numL wk).length + ((numL nm)).length ≤ 1000000) := ⟨by have h1 := numL_len wk HW.out.1; have h2 := numL_len nm HW.out.2; have h3 : (stepW).length = 4 := rfl; omega⟩
      have hg : ∀ x : World, (x.alloc (Obj.cells #[.string ⟨#[115, 116, 101, 112]⟩, .string (bs (numL wk)), .string (bs (numL nm))] 9)).heap[x.heap.size]? = some (.cells #[.string (bs stepW), .string (bs (numL wk)), .string (bs (numL nm))] 9) := fun x => blk_new x _
      go_wp2_with (go_at_call 23; (with_reducible refine (join3_calls stepW (numL wk) (numL nm) _ _ (hg _) HLEN.out).mono ?_); rintro e w9 ⟨rfl, hB9⟩)
      go_ret2
      refine ⟨?_, bthen (ballo (bthen HB.out HB2.out) _) hB9⟩
      rw [show lineT kd wk nm [c0, c1, c2, c3, c4] = (jn [stepW, numL wk, (numL nm)], 0) by unfold lineT; rw [if_pos ⟨HK.out, of_decide_eq_true HST.out⟩]]
      rfl
    · have qkd0 : (kd == 0) = false := by simpa using hkd0
      have HK0 := Aside0.mk hkd0
      clear hkd0
      by_cases hkd2 : kd = 2
      · have qkd2 : (kd == 2) = true := by simpa using hkd2
        have HK := Aside0.mk hkd2
        clear hkd2
        have qkd1 : (kd == 1) = false := by rw [HK.out]; rfl
        have HLEN : Aside0 ((moveW).length + (numL wk).length + ((numL nm)).length ≤ 1000000) := ⟨by have h1 := numL_len wk HW.out.1; have h2 := numL_len nm HW.out.2; have h3 : (moveW).length = 4 := rfl; omega⟩
        have hg : ∀ x : World, (x.alloc (Obj.cells #[.string ⟨#[109, 111, 118, 101]⟩, .string (bs (numL wk)), .string (bs (numL nm))] 9)).heap[x.heap.size]? = some (.cells #[.string (bs moveW), .string (bs (numL wk)), .string (bs (numL nm))] 9) := fun x => blk_new x _
        go_wp2_with (go_at_call 23; (with_reducible refine (join3_calls moveW (numL wk) (numL nm) _ _ (hg _) HLEN.out).mono ?_); rintro e w9 ⟨rfl, hB9⟩)
        go_ret2
        refine ⟨?_, bthen (ballo (bthen HB.out HB2.out) _) hB9⟩
        rw [show lineT kd wk nm [c0, c1, c2, c3, c4] = (jn [moveW, numL wk, (numL nm)], 0) by unfold lineT; rw [if_neg (by rintro ⟨h, _⟩; exact HK0.out h), if_pos ⟨HK.out, of_decide_eq_true HST.out⟩]]
        rfl
      · have qkd2 : (kd == 2) = false := by simpa using hkd2
        have HK2 := Aside0.mk hkd2
        clear hkd2
        by_cases hkd1 : kd = 1
        · have qkd1 : (kd == 1) = true := by simpa using hkd1
          have HK := Aside0.mk hkd1
          clear hkd1
          by_cases hnm0 : nm = 0
          · have qnm0 : (nm == 0) = true := by simpa using hnm0
            have HN := Aside0.mk hnm0
            clear hnm0
            obtain ⟨t, f, ht⟩ : ∃ t f, callT [c0, c1, c2, c3, c4] = (t, f) := ⟨_, _, rfl⟩
            have HTT := Aside0.mk ht
            clear ht
            by_cases hf0 : f = 0
            · have HF := Aside0.mk hf0
              have qf0 : (f == 0) = true := by simpa using hf0
              clear hf0
              have HLEN : Aside0 ((callW).length + (numL wk).length + (t).length ≤ 1000000) := ⟨by have h1 := numL_len wk HW.out.1; have h2 : t.length ≤ 63 := (by have h4 := callT_len [c0, c1, c2, c3, c4] (fun x hx => HI.out x (by simp at hx ⊢; rcases hx with h | h | h | h | h <;> simp [h])); rw [HTT.out] at h4; exact h4); have h3 : (callW).length = 4 := rfl; omega⟩
              have hg : ∀ x : World, (x.alloc (Obj.cells #[.string ⟨#[99, 97, 108, 108]⟩, .string (bs (numL wk)), .string (bs t)] 9)).heap[x.heap.size]? = some (.cells #[.string (bs callW), .string (bs (numL wk)), .string (bs t)] 9) := fun x => blk_new x _
              go_wp2_with (first
                | (go_at_call 24; (with_reducible refine (call_to [c0, c1, c2, c3, c4] t f c0 c1 c2 c3 c4 _ rfl (fun x hx => HI.out x (by simp at hx ⊢; rcases hx with h | h | h | h | h <;> simp [h])) HTT.out).mono ?_); rintro e w8 ⟨rfl, hB8⟩; have HB8 := Aside0.mk (bthen HB2.out hB8); clear hB8)
                | (go_at_call 23; (with_reducible refine (join3_calls callW (numL wk) t _ _ (hg _) HLEN.out).mono ?_); rintro e w9 ⟨rfl, hB9⟩))
              go_ret2
              refine ⟨?_, bthen (ballo (bthen HB.out HB8.out) _) hB9⟩
              rw [show lineT kd wk nm [c0, c1, c2, c3, c4] = (jn [callW, numL wk, t], 0) by unfold lineT; rw [if_neg (by rintro ⟨h, _⟩; rw [HK.out] at h; cases h), if_neg (by rintro ⟨h, _⟩; rw [HK.out] at h; cases h), if_pos ⟨HK.out, HN.out, by rw [HTT.out, HF.out]⟩, HTT.out]]
              rfl
            · have HF := Aside0.mk hf0
              have qf0 : (f == 0) = false := by simpa using hf0
              clear hf0
              go_wp2_with (go_at_call 24; (with_reducible refine (call_to [c0, c1, c2, c3, c4] t f c0 c1 c2 c3 c4 _ rfl (fun x hx => HI.out x (by simp at hx ⊢; rcases hx with h | h | h | h | h <;> simp [h])) HTT.out).mono ?_); rintro e w8 ⟨rfl, hB8⟩; have HB8 := Aside0.mk (bthen HB2.out hB8); clear hB8)
              go_ret2
              refine ⟨?_, bthen HB.out HB8.out⟩
              rw [show lineT kd wk nm [c0, c1, c2, c3, c4] = ([], 2) by unfold lineT; rw [if_neg (by rintro ⟨h, _⟩; rw [HK.out] at h; cases h), if_neg (by rintro ⟨h, _⟩; rw [HK.out] at h; cases h), if_neg (by rintro ⟨_, _, h⟩; rw [HTT.out] at h; exact HF.out h)]]
              rfl
          · have qnm0 : (nm == 0) = false := by simpa using hnm0
            have HN := Aside0.mk hnm0
            clear hnm0
            go_wp2_with fail
            go_ret2
            refine ⟨?_, (bthen HB.out HB2.out)⟩
            rw [show lineT kd wk nm [c0, c1, c2, c3, c4] = ([], 2) by unfold lineT; rw [if_neg (by rintro ⟨h, _⟩; exact HK0.out h), if_neg (by rintro ⟨h, _⟩; exact HK2.out h), if_neg (by rintro ⟨_, h, _⟩; exact HN.out h)]]
            rfl
        · have qkd1 : (kd == 1) = false := by simpa using hkd1
          have HK1 := Aside0.mk hkd1
          clear hkd1
          go_wp2_with fail
          go_ret2
          refine ⟨?_, (bthen HB.out HB2.out)⟩
          rw [show lineT kd wk nm [c0, c1, c2, c3, c4] = ([], 2) by unfold lineT; rw [if_neg (by rintro ⟨h, _⟩; exact HK0.out h), if_neg (by rintro ⟨h, _⟩; exact HK2.out h), if_neg (by rintro ⟨h, _⟩; exact HK1.out h)]]
          rfl
  | false =>
    by_cases hkd0 : kd = 0
    · have qkd0 : (kd == 0) = true := by simpa using hkd0
      have HK := Aside0.mk hkd0
      clear hkd0
      have qkd2 : (kd == 2) = false := by rw [HK.out]; rfl
      have qkd1 : (kd == 1) = false := by rw [HK.out]; rfl
      go_wp2_with fail
      go_ret2
      refine ⟨?_, (bthen HB.out HB2.out)⟩
      rw [show lineT kd wk nm [c0, c1, c2, c3, c4] = ([], 2) by unfold lineT; rw [if_neg (by rintro ⟨_, h⟩; exact of_decide_eq_false HST.out h), if_neg (by rintro ⟨_, h⟩; exact of_decide_eq_false HST.out h), if_neg (by rintro ⟨h, _⟩; rw [HK.out] at h; cases h)]]
      rfl
    · have qkd0 : (kd == 0) = false := by simpa using hkd0
      have HK0 := Aside0.mk hkd0
      clear hkd0
      by_cases hkd2 : kd = 2
      · have qkd2 : (kd == 2) = true := by simpa using hkd2
        have HK := Aside0.mk hkd2
        clear hkd2
        have qkd1 : (kd == 1) = false := by rw [HK.out]; rfl
        go_wp2_with fail
        go_ret2
        refine ⟨?_, (bthen HB.out HB2.out)⟩
        rw [show lineT kd wk nm [c0, c1, c2, c3, c4] = ([], 2) by unfold lineT; rw [if_neg (by rintro ⟨h, _⟩; exact HK0.out h), if_neg (by rintro ⟨_, h⟩; exact of_decide_eq_false HST.out h), if_neg (by rintro ⟨h, _⟩; rw [HK.out] at h; cases h)]]
        rfl
      · have qkd2 : (kd == 2) = false := by simpa using hkd2
        have HK2 := Aside0.mk hkd2
        clear hkd2
        by_cases hkd1 : kd = 1
        · have qkd1 : (kd == 1) = true := by simpa using hkd1
          have HK := Aside0.mk hkd1
          clear hkd1
          by_cases hnm0 : nm = 0
          · have qnm0 : (nm == 0) = true := by simpa using hnm0
            have HN := Aside0.mk hnm0
            clear hnm0
            obtain ⟨t, f, ht⟩ : ∃ t f, callT [c0, c1, c2, c3, c4] = (t, f) := ⟨_, _, rfl⟩
            have HTT := Aside0.mk ht
            clear ht
            by_cases hf0 : f = 0
            · have HF := Aside0.mk hf0
              have qf0 : (f == 0) = true := by simpa using hf0
              clear hf0
              have HLEN : Aside0 ((callW).length + (numL wk).length + (t).length ≤ 1000000) := ⟨by have h1 := numL_len wk HW.out.1; have h2 : t.length ≤ 63 := (by have h4 := callT_len [c0, c1, c2, c3, c4] (fun x hx => HI.out x (by simp at hx ⊢; rcases hx with h | h | h | h | h <;> simp [h])); rw [HTT.out] at h4; exact h4); have h3 : (callW).length = 4 := rfl; omega⟩
              have hg : ∀ x : World, (x.alloc (Obj.cells #[.string ⟨#[99, 97, 108, 108]⟩, .string (bs (numL wk)), .string (bs t)] 9)).heap[x.heap.size]? = some (.cells #[.string (bs callW), .string (bs (numL wk)), .string (bs t)] 9) := fun x => blk_new x _
              go_wp2_with (first
                | (go_at_call 24; (with_reducible refine (call_to [c0, c1, c2, c3, c4] t f c0 c1 c2 c3 c4 _ rfl (fun x hx => HI.out x (by simp at hx ⊢; rcases hx with h | h | h | h | h <;> simp [h])) HTT.out).mono ?_); rintro e w8 ⟨rfl, hB8⟩; have HB8 := Aside0.mk (bthen HB2.out hB8); clear hB8)
                | (go_at_call 23; (with_reducible refine (join3_calls callW (numL wk) t _ _ (hg _) HLEN.out).mono ?_); rintro e w9 ⟨rfl, hB9⟩))
              go_ret2
              refine ⟨?_, bthen (ballo (bthen HB.out HB8.out) _) hB9⟩
              rw [show lineT kd wk nm [c0, c1, c2, c3, c4] = (jn [callW, numL wk, t], 0) by unfold lineT; rw [if_neg (by rintro ⟨h, _⟩; rw [HK.out] at h; cases h), if_neg (by rintro ⟨h, _⟩; rw [HK.out] at h; cases h), if_pos ⟨HK.out, HN.out, by rw [HTT.out, HF.out]⟩, HTT.out]]
              rfl
            · have HF := Aside0.mk hf0
              have qf0 : (f == 0) = false := by simpa using hf0
              clear hf0
              go_wp2_with (go_at_call 24; (with_reducible refine (call_to [c0, c1, c2, c3, c4] t f c0 c1 c2 c3 c4 _ rfl (fun x hx => HI.out x (by simp at hx ⊢; rcases hx with h | h | h | h | h <;> simp [h])) HTT.out).mono ?_); rintro e w8 ⟨rfl, hB8⟩; have HB8 := Aside0.mk (bthen HB2.out hB8); clear hB8)
              go_ret2
              refine ⟨?_, bthen HB.out HB8.out⟩
              rw [show lineT kd wk nm [c0, c1, c2, c3, c4] = ([], 2) by unfold lineT; rw [if_neg (by rintro ⟨h, _⟩; rw [HK.out] at h; cases h), if_neg (by rintro ⟨h, _⟩; rw [HK.out] at h; cases h), if_neg (by rintro ⟨_, _, h⟩; rw [HTT.out] at h; exact HF.out h)]]
              rfl
          · have qnm0 : (nm == 0) = false := by simpa using hnm0
            have HN := Aside0.mk hnm0
            clear hnm0
            go_wp2_with fail
            go_ret2
            refine ⟨?_, (bthen HB.out HB2.out)⟩
            rw [show lineT kd wk nm [c0, c1, c2, c3, c4] = ([], 2) by unfold lineT; rw [if_neg (by rintro ⟨h, _⟩; exact HK0.out h), if_neg (by rintro ⟨h, _⟩; exact HK2.out h), if_neg (by rintro ⟨_, h, _⟩; exact HN.out h)]]
            rfl
        · have qkd1 : (kd == 1) = false := by simpa using hkd1
          have HK1 := Aside0.mk hkd1
          clear hkd1
          go_wp2_with fail
          go_ret2
          refine ⟨?_, (bthen HB.out HB2.out)⟩
          rw [show lineT kd wk nm [c0, c1, c2, c3, c4] = ([], 2) by unfold lineT; rw [if_neg (by rintro ⟨h, _⟩; exact HK0.out h), if_neg (by rintro ⟨h, _⟩; exact HK2.out h), if_neg (by rintro ⟨h, _⟩; exact HK1.out h)]]
          rfl
end Go.Proofs.YtdaagoagfenadaaDoor.X
namespace Go.Proofs.YtdaagoagfenadaaDoor.X
open Go.RowKit Go.Proofs.YtdaagoagfenadaaDoor.YAll Go.Proofs.YtdaagoagfenadaaDoorW.PrintWords Go.Proofs.YtdaagoagfenadaaDoorW.PrintLast Go.Proofs.YtdaagoagfenadaaDoorW.PrintMore
set_option linter.unusedVariables false
set_option linter.unusedSimpArgs false
theorem list8 (l : List Int) (h : l.length = 8) : ∃ a b c d e f g i, l = [a, b, c, d, e, f, g, i] := by
  match l, h with
  | [a, b, c, d, e, f, g, i], _ => exact ⟨_, _, _, _, _, _, _, _, rfl⟩
theorem EntAt.eight {w : World} {b : Nat} {y0 y1 y2 y3 y4 y5 y6 y7 : Int} (h : EntAt w b [y0, y1, y2, y3, y4, y5, y6, y7]) : w.cell? ⟨b, 0, none⟩ = some (.int .i64 y0) ∧ w.cell? ⟨b, 1, none⟩ = some (.int .i64 y1) ∧ w.cell? ⟨b, 2, none⟩ = some (.int .i64 y2) ∧ w.cell? ⟨b, 3, none⟩ = some (.int .i64 y3) ∧ w.cell? ⟨b, 4, none⟩ = some (.int .i64 y4) ∧ w.cell? ⟨b, 5, none⟩ = some (.int .i64 y5) ∧ w.cell? ⟨b, 6, none⟩ = some (.int .i64 y6) ∧ w.cell? ⟨b, 7, none⟩ = some (.int .i64 y7) :=
  ⟨blk_cell h 0, blk_cell h 1, blk_cell h 2, blk_cell h 3, blk_cell h 4, blk_cell h 5, blk_cell h 6, blk_cell h 7⟩
theorem EntAt.frozen {w : World} {b : Nat} {c : List Int} (h : EntAt w b c) (i : Nat) : w.frozen? ⟨b, i, none⟩ = false := blk_frozen h i
theorem EntAt.set {w : World} {b : Nat} {c : List Int} (h : EntAt w b c) (i : Nat) (x : Int) : EntAt (w.setCell ⟨b, i, none⟩ (.int .i64 x)) b (c.set i x) := by
  have h2 := blk_set h i (.int .i64 x)
  unfold EntAt
  rw [h2]
  simp [List.map_set]
theorem EntAt.far {w : World} {b g : Nat} {c : List Int} (h : EntAt w b c) (i : Nat) (v : Value) (hn : b ≠ g) : EntAt (w.setCell ⟨g, i, none⟩ v) b c := blk_far h hn v
def set8 (w : World) (g : Nat) (y0 y1 y2 y3 y4 y5 y6 y7 : Int) : World := (((((((w.setCell ⟨g, 0, none⟩ (.int .i64 y0)).setCell ⟨g, 1, none⟩ (.int .i64 y1)).setCell ⟨g, 2, none⟩ (.int .i64 y2)).setCell ⟨g, 3, none⟩ (.int .i64 y3)).setCell ⟨g, 4, none⟩ (.int .i64 y4)).setCell ⟨g, 5, none⟩ (.int .i64 y5)).setCell ⟨g, 6, none⟩ (.int .i64 y6)).setCell ⟨g, 7, none⟩ (.int .i64 y7)
theorem EntAt.set8 {w : World} {g : Nat} {c : List Int} (h : EntAt w g c) (hl : c.length = 8) (y0 y1 y2 y3 y4 y5 y6 y7 : Int) : EntAt (X.set8 w g y0 y1 y2 y3 y4 y5 y6 y7) g [y0, y1, y2, y3, y4, y5, y6, y7] := by
  obtain ⟨a0, a1, a2, a3, a4, a5, a6, a7, rfl⟩ := list8 _ hl
  exact (((((((h.set 0 y0).set 1 y1).set 2 y2).set 3 y3).set 4 y4).set 5 y5).set 6 y6).set 7 y7
theorem below8 {w0 w : World} {g : Nat} (h : Below w0.heap.size w0 w) (hg : w0.heap.size ≤ g) (y0 y1 y2 y3 y4 y5 y6 y7 : Int) : Below w0.heap.size w0 (set8 w g y0 y1 y2 y3 y4 y5 y6 y7) := (((((((h.setCell hg _).setCell hg _).setCell hg _).setCell hg _).setCell hg _).setCell hg _).setCell hg _).setCell hg _
theorem ent_res {fn : Func} {p u : Tmp} (tmps : Array Value) (w : World) (g : Nat) (q : List Int) (h : fn.results = #[.cell p 25, .tmp u]) (hp : tmps.getD p undef = .pointer (some ⟨g, 0, none⟩)) (hq : EntAt w g q) (hl : q.length = 8) : (results fn tmps).run Tryd.prog w = .ok (.tuple #[.agg (q.map (Value.int .i64)).toArray, tmps.getD u undef]) w := by
  have hi : (Tryd.prog.info? 25).map (·.size) = some 8 := by kernel_rfl
  obtain ⟨fl, hu⟩ : ∃ fl, Tryd.prog.underlying 25 = some (.struct fl) := ⟨_, Tryd.underlying25⟩
  exact results_list (rs := [.cell p 25, .tmp u]) h (by simp) (.cell g _ _ (0, 0) _ hp hq hu rfl (by rw [hi]; simp [hl]) (.tmp .nil))
theorem cutB_len (l : List UInt8) : (cutB l).1.length ≤ l.length ∧ (cutB l).2.length ≤ l.length := by
  induction l with
  | nil => exact ⟨Nat.le_refl _, Nat.le_refl _⟩
  | cons c r ih =>
    unfold cutB
    split
    · simp
    · simp only [List.length_cons]; omega
set_option maxRecDepth 100000 in
set_option maxHeartbeats 20000000 in
theorem entry_no (l a r b q : List UInt8) (v : Int) (w : World) (hm : Mx w) (hl : l.length ≤ 2000000) (h1 : cutB l = (a, r)) (h2 : cutB r = (b, q)) (h3 : rdV b = (v, false)) : Calls Tryd.prog 10 #[.string (bs l)] w fun e w' => e = .returned (.tuple #[.agg (zero8.map (Value.int .i64)).toArray, .int .i64 4]) ∧ Below w.heap.size w w' := by
  have HM := Aside0.mk hm
  have HL := Aside0.mk hl
  have hrl : r.length ≤ 2000000 := by have := (cutB_len l).2; rw [h1] at this; exact Nat.le_trans this hl
  have H := Aside0.mk (And.intro h1 (And.intro h2 (And.intro h3 hrl)))
  clear hm hl h1 h2 h3 hrl
  go_enter Tryd.func10, Tryd.ntmps10
  have BX : EntAt (w.alloc (Obj.cells #[.int .i64 0, .int .i64 0, .int .i64 0, .int .i64 0, .int .i64 0, .int .i64 0, .int .i64 0, .int .i64 0] 25)) w.heap.size zero8 := blk_new w _
  have BB := ballo (Below.refl w.heap.size w) (Obj.cells #[.int .i64 0, .int .i64 0, .int .i64 0, .int .i64 0, .int .i64 0, .int .i64 0, .int .i64 0, .int .i64 0] 25)
  go_upto_region 1 with fail
  generalize w.alloc (Obj.cells #[.int .i64 0, .int .i64 0, .int .i64 0, .int .i64 0, .int .i64 0, .int .i64 0, .int .i64 0, .int .i64 0] 25) = w1 at *
  have HX := Aside0.mk BX
  have HB := Aside0.mk BB
  clear BX BB
  go_wp2_with (first
    | (go_at_call 28; have _z := HB3; (with_reducible refine (read_to b v false _ H.out.2.2.1).mono ?_); rintro e w4 ⟨rfl, hB4⟩; have HB4 := Aside0.mk (bthen HB3.out hB4); obtain ⟨z0, z1, z2, z3, z4, z5, z6, z7⟩ := (HX.out.below HB4.out).eight; have zf := (HX.out.below HB4.out).frozen; clear hB4)
    | (go_at_call 27; have _z := HB2; (with_reducible refine (head_calls r b q _ (HM.out.below (bthen HB.out HB2.out)) H.out.2.2.2 H.out.2.1).mono ?_); rintro e w3 ⟨rfl, hB3⟩; have HB3 := Aside0.mk (bthen HB2.out hB3); clear hB3)
    | (go_at_call 27; (with_reducible refine (head_calls l a r _ (HM.out.below HB.out) HL.out H.out.1).mono ?_); rintro e w2 ⟨rfl, hB2⟩; have HB2 := Aside0.mk hB2; clear hB2))
  (try simp only [Exit.inBlock, Exit.then])
  refine bodyPost_ret (ent_res (p := 2) (u := 3) _ _ w.heap.size zero8 rfl rfl ((HX.out.below HB4.out).set8 rfl 0 0 0 0 0 0 0 0) rfl) rfl ?_
  exact ⟨rfl, below8 (bthen HB.out HB4.out) (Nat.le_refl _) 0 0 0 0 0 0 0 0⟩
set_option maxRecDepth 100000 in
set_option maxHeartbeats 20000000 in
theorem entry_other (l a r b q : List UInt8) (v : Int) (w : World) (hm : Mx w) (hl : l.length ≤ 2000000) (h1 : cutB l = (a, r)) (h2 : cutB r = (b, q)) (h3 : rdV b = (v, true)) (n1 : a ≠ stepW) (n2 : a ≠ moveW) (n3 : a ≠ callW) : Calls Tryd.prog 10 #[.string (bs l)] w fun e w' => e = .returned (.tuple #[.agg (zero8.map (Value.int .i64)).toArray, .int .i64 4]) ∧ Below w.heap.size w w' := by
  have HM := Aside0.mk hm
  have HL := Aside0.mk hl
  have hrl : r.length ≤ 2000000 := by have := (cutB_len l).2; rw [h1] at this; exact Nat.le_trans this hl
  have hql : q.length ≤ 2000000 := by have := (cutB_len r).2; rw [h2] at this; exact Nat.le_trans this hrl
  have H := Aside0.mk (And.intro h1 (And.intro h2 (And.intro h3 (And.intro hrl hql))))
  clear hm hl h1 h2 h3 hrl hql
  have m1 : ((bs a).toList == [115, 116, 101, 112]) = false := by rw [bs_list, beq_eq_false_iff_ne]; exact n1
  have m2 : ((bs a).toList == [109, 111, 118, 101]) = false := by rw [bs_list, beq_eq_false_iff_ne]; exact n2
  have m3 : ((bs a).toList == [99, 97, 108, 108]) = false := by rw [bs_list, beq_eq_false_iff_ne]; exact n3
  clear n1 n2 n3
  go_enter Tryd.func10, Tryd.ntmps10
  have BX : EntAt (w.alloc (Obj.cells #[.int .i64 0, .int .i64 0, .int .i64 0, .int .i64 0, .int .i64 0, .int .i64 0, .int .i64 0, .int .i64 0] 25)) w.heap.size zero8 := blk_new w _
  have BB := ballo (Below.refl w.heap.size w) (Obj.cells #[.int .i64 0, .int .i64 0, .int .i64 0, .int .i64 0, .int .i64 0, .int .i64 0, .int .i64 0, .int .i64 0] 25)
  go_upto_region 1 with fail
  generalize hw1 : w.alloc (Obj.cells #[.int .i64 0, .int .i64 0, .int .i64 0, .int .i64 0, .int .i64 0, .int .i64 0, .int .i64 0, .int .i64 0] 25) = w1 at *
  have HS1 : Aside0 (w1.heap.size = w.heap.size + 1) := ⟨by rw [← hw1]; exact size_al _ _⟩
  clear hw1
  have HX := Aside0.mk BX
  have HB := Aside0.mk BB
  clear BX BB
  go_upto_region 7 with (first
    | (go_at_call 28; have _z := HB3; (with_reducible refine (read_to b v true _ H.out.2.2.1).mono ?_); rintro e w4 ⟨rfl, hB4⟩; have HB4 := Aside0.mk (bthen HB3.out hB4); clear hB4)
    | (go_at_call 27; have _z := HB2; (with_reducible refine (head_calls r b q _ (HM.out.below (bthen HB.out HB2.out)) H.out.2.2.2.1 H.out.2.1).mono ?_); rintro e w3 ⟨rfl, hB3⟩; have HB3 := Aside0.mk (bthen HB2.out hB3); clear hB3)
    | (go_at_call 27; (with_reducible refine (head_calls l a r _ (HM.out.below HB.out) HL.out H.out.1).mono ?_); rintro e w2 ⟨rfl, hB2⟩; have HB2 := Aside0.mk hB2; clear hB2))
  have Q5 : Aside0 (EntAt (w4.alloc (Obj.cells #[.int .i64 0, .int .i64 v, .int .i64 0, .int .i64 0, .int .i64 0, .int .i64 0, .int .i64 0, .int .i64 0] 25)) w4.heap.size [0, v, 0, 0, 0, 0, 0, 0]) := ⟨blk_new w4 _⟩
  have B5 : Aside0 (Below w1.heap.size w1 (w4.alloc (Obj.cells #[.int .i64 0, .int .i64 v, .int .i64 0, .int .i64 0, .int .i64 0, .int .i64 0, .int .i64 0, .int .i64 0] 25))) := ⟨ballo HB4.out _⟩
  have N5 : Aside0 (w.heap.size ≠ w4.heap.size ∧ w1.heap.size ≤ w4.heap.size) := ⟨by have h1 := HS1.out; have h2 := HB4.out.size; omega⟩
  generalize w4.alloc (Obj.cells #[.int .i64 0, .int .i64 v, .int .i64 0, .int .i64 0, .int .i64 0, .int .i64 0, .int .i64 0, .int .i64 0] 25) = w5 at *
  generalize w4.heap.size = q9 at *
  clear HB2 HB3 HB4
  obtain ⟨z0, z1, z2, z3, z4, z5, z6, z7⟩ := (HX.out.below B5.out).eight
  have zf := (HX.out.below B5.out).frozen
  go_wp2_with fail
  (try simp only [Exit.inBlock, Exit.then])
  refine bodyPost_ret (ent_res (p := 2) (u := 3) _ _ w.heap.size zero8 rfl rfl ((HX.out.below B5.out).set8 rfl 0 0 0 0 0 0 0 0) rfl) rfl ?_
  exact ⟨rfl, below8 (bthen HB.out B5.out) (Nat.le_refl _) 0 0 0 0 0 0 0 0⟩
set_option maxRecDepth 100000 in
set_option maxHeartbeats 20000000 in
theorem entry_step_ok (l r b q : List UInt8) (v m : Int) (w : World) (hm : Mx w) (hl : l.length ≤ 2000000) (h1 : cutB l = (stepW, r)) (h2 : cutB r = (b, q)) (h3 : rdV b = (v, true)) (h4 : rdV q = (m, true)) : Calls Tryd.prog 10 #[.string (bs l)] w fun e w' => e = .returned (.tuple #[.agg ([0, v, m, 0, 0, 0, 0, 0].map (Value.int .i64)).toArray, .int .i64 0]) ∧ Below w.heap.size w w' := by
  have HM := Aside0.mk hm
  have HL := Aside0.mk hl
  have hrl : r.length ≤ 2000000 := by have := (cutB_len l).2; rw [h1] at this; exact Nat.le_trans this hl
  have hql : q.length ≤ 2000000 := by have := (cutB_len r).2; rw [h2] at this; exact Nat.le_trans this hrl
  have H := Aside0.mk (And.intro h1 (And.intro h2 (And.intro h3 (And.intro hrl hql))))
  have HQ := Aside0.mk h4
  clear h4
  clear hm hl h1 h2 h3 hrl hql
  have m1 : (bs stepW).toList = [115, 116, 101, 112] := bs_list _
  go_enter Tryd.func10, Tryd.ntmps10
  have BX : EntAt (w.alloc (Obj.cells #[.int .i64 0, .int .i64 0, .int .i64 0, .int .i64 0, .int .i64 0, .int .i64 0, .int .i64 0, .int .i64 0] 25)) w.heap.size zero8 := blk_new w _
  have BB := ballo (Below.refl w.heap.size w) (Obj.cells #[.int .i64 0, .int .i64 0, .int .i64 0, .int .i64 0, .int .i64 0, .int .i64 0, .int .i64 0, .int .i64 0] 25)
  go_upto_region 1 with fail
  generalize hw1 : w.alloc (Obj.cells #[.int .i64 0, .int .i64 0, .int .i64 0, .int .i64 0, .int .i64 0, .int .i64 0, .int .i64 0, .int .i64 0] 25) = w1 at *
  have HS1 : Aside0 (w1.heap.size = w.heap.size + 1) := ⟨by rw [← hw1]; exact size_al _ _⟩
  clear hw1
  have HX := Aside0.mk BX
  have HB := Aside0.mk BB
  clear BX BB
  go_upto_region 7 with (first
    | (go_at_call 28; have _z := HB3; (with_reducible refine (read_to b v true _ H.out.2.2.1).mono ?_); rintro e w4 ⟨rfl, hB4⟩; have HB4 := Aside0.mk (bthen HB3.out hB4); clear hB4)
    | (go_at_call 27; have _z := HB2; (with_reducible refine (head_calls r b q _ (HM.out.below (bthen HB.out HB2.out)) H.out.2.2.2.1 H.out.2.1).mono ?_); rintro e w3 ⟨rfl, hB3⟩; have HB3 := Aside0.mk (bthen HB2.out hB3); clear hB3)
    | (go_at_call 27; (with_reducible refine (head_calls l stepW r _ (HM.out.below HB.out) HL.out H.out.1).mono ?_); rintro e w2 ⟨rfl, hB2⟩; have HB2 := Aside0.mk hB2; clear hB2))
  have Q5 : Aside0 (EntAt (w4.alloc (Obj.cells #[.int .i64 0, .int .i64 v, .int .i64 0, .int .i64 0, .int .i64 0, .int .i64 0, .int .i64 0, .int .i64 0] 25)) w4.heap.size [0, v, 0, 0, 0, 0, 0, 0]) := ⟨blk_new w4 _⟩
  have B5 : Aside0 (Below w1.heap.size w1 (w4.alloc (Obj.cells #[.int .i64 0, .int .i64 v, .int .i64 0, .int .i64 0, .int .i64 0, .int .i64 0, .int .i64 0, .int .i64 0] 25))) := ⟨ballo HB4.out _⟩
  have N5 : Aside0 (w.heap.size ≠ w4.heap.size ∧ w1.heap.size ≤ w4.heap.size) := ⟨by have h1 := HS1.out; have h2 := HB4.out.size; omega⟩
  generalize w4.alloc (Obj.cells #[.int .i64 0, .int .i64 v, .int .i64 0, .int .i64 0, .int .i64 0, .int .i64 0, .int .i64 0, .int .i64 0] 25) = w5 at *
  generalize w4.heap.size = q9 at *
  clear HB2 HB3 HB4
  have qf := Q5.out.frozen
  obtain ⟨q0, q1, q2, q3, q4, q5, q6, q7⟩ := Q5.out.eight
  have QK : Aside0 (EntAt (w5.setCell ⟨q9, 0, none⟩ (.int .i64 0)) q9 [0, v, 0, 0, 0, 0, 0, 0]) := ⟨Q5.out.set 0 0⟩
  have XK : Aside0 (EntAt (w5.setCell ⟨q9, 0, none⟩ (.int .i64 0)) w.heap.size zero8) := ⟨(HX.out.below B5.out).far 0 _ N5.out.1⟩
  have BK : Aside0 (Below w1.heap.size w1 (w5.setCell ⟨q9, 0, none⟩ (.int .i64 0))) := ⟨B5.out.setCell N5.out.2 _⟩
  go_wp2_with (go_at_call 28; (with_reducible refine (read_to q m true _ HQ.out).mono ?_); rintro e w6 ⟨rfl, hB6⟩; have HQ6 := Aside0.mk (QK.out.below hB6); have HX6 := Aside0.mk (XK.out.below hB6); have HB6 := Aside0.mk (bthen BK.out hB6); clear hB6; obtain ⟨c0, c1, c2, c3, c4, c5, c6, c7⟩ := HQ6.out.eight; have cf := HQ6.out.frozen; obtain ⟨e0, e1, e2, e3, e4, e5, e6, e7⟩ := (EntAt.eight (HQ6.out.set 2 m : EntAt _ q9 [0, v, m, 0, 0, 0, 0, 0])); obtain ⟨z0, z1, z2, z3, z4, z5, z6, z7⟩ := (HX6.out.far 2 (.int .i64 m) N5.out.1).eight; have zf := (HX6.out.far 2 (.int .i64 m) N5.out.1).frozen)
  (try simp only [Exit.inBlock, Exit.then])
  refine bodyPost_ret (ent_res (p := 2) (u := 3) _ _ w.heap.size [0, v, m, 0, 0, 0, 0, 0] rfl rfl ((HX6.out.far 2 (.int .i64 m) N5.out.1).set8 rfl 0 v m 0 0 0 0 0) rfl) rfl ?_
  exact ⟨rfl, below8 (bthen HB.out (HB6.out.setCell N5.out.2 _)) (Nat.le_refl _) 0 v m 0 0 0 0 0⟩
set_option maxRecDepth 100000 in
set_option maxHeartbeats 20000000 in
theorem entry_step_no (l r b q : List UInt8) (v m : Int) (w : World) (hm : Mx w) (hl : l.length ≤ 2000000) (h1 : cutB l = (stepW, r)) (h2 : cutB r = (b, q)) (h3 : rdV b = (v, true)) (h4 : rdV q = (m, false)) : Calls Tryd.prog 10 #[.string (bs l)] w fun e w' => e = .returned (.tuple #[.agg (zero8.map (Value.int .i64)).toArray, .int .i64 4]) ∧ Below w.heap.size w w' := by
  have HM := Aside0.mk hm
  have HL := Aside0.mk hl
  have hrl : r.length ≤ 2000000 := by have := (cutB_len l).2; rw [h1] at this; exact Nat.le_trans this hl
  have hql : q.length ≤ 2000000 := by have := (cutB_len r).2; rw [h2] at this; exact Nat.le_trans this hrl
  have H := Aside0.mk (And.intro h1 (And.intro h2 (And.intro h3 (And.intro hrl hql))))
  have HQ := Aside0.mk h4
  clear h4
  clear hm hl h1 h2 h3 hrl hql
  have m1 : (bs stepW).toList = [115, 116, 101, 112] := bs_list _
  go_enter Tryd.func10, Tryd.ntmps10
  have BX : EntAt (w.alloc (Obj.cells #[.int .i64 0, .int .i64 0, .int .i64 0, .int .i64 0, .int .i64 0, .int .i64 0, .int .i64 0, .int .i64 0] 25)) w.heap.size zero8 := blk_new w _
  have BB := ballo (Below.refl w.heap.size w) (Obj.cells #[.int .i64 0, .int .i64 0, .int .i64 0, .int .i64 0, .int .i64 0, .int .i64 0, .int .i64 0, .int .i64 0] 25)
  go_upto_region 1 with fail
  generalize hw1 : w.alloc (Obj.cells #[.int .i64 0, .int .i64 0, .int .i64 0, .int .i64 0, .int .i64 0, .int .i64 0, .int .i64 0, .int .i64 0] 25) = w1 at *
  have HS1 : Aside0 (w1.heap.size = w.heap.size + 1) := ⟨by rw [← hw1]; exact size_al _ _⟩
  clear hw1
  have HX := Aside0.mk BX
  have HB := Aside0.mk BB
  clear BX BB
  go_upto_region 7 with (first
    | (go_at_call 28; have _z := HB3; (with_reducible refine (read_to b v true _ H.out.2.2.1).mono ?_); rintro e w4 ⟨rfl, hB4⟩; have HB4 := Aside0.mk (bthen HB3.out hB4); clear hB4)
    | (go_at_call 27; have _z := HB2; (with_reducible refine (head_calls r b q _ (HM.out.below (bthen HB.out HB2.out)) H.out.2.2.2.1 H.out.2.1).mono ?_); rintro e w3 ⟨rfl, hB3⟩; have HB3 := Aside0.mk (bthen HB2.out hB3); clear hB3)
    | (go_at_call 27; (with_reducible refine (head_calls l stepW r _ (HM.out.below HB.out) HL.out H.out.1).mono ?_); rintro e w2 ⟨rfl, hB2⟩; have HB2 := Aside0.mk hB2; clear hB2))
  have Q5 : Aside0 (EntAt (w4.alloc (Obj.cells #[.int .i64 0, .int .i64 v, .int .i64 0, .int .i64 0, .int .i64 0, .int .i64 0, .int .i64 0, .int .i64 0] 25)) w4.heap.size [0, v, 0, 0, 0, 0, 0, 0]) := ⟨blk_new w4 _⟩
  have B5 : Aside0 (Below w1.heap.size w1 (w4.alloc (Obj.cells #[.int .i64 0, .int .i64 v, .int .i64 0, .int .i64 0, .int .i64 0, .int .i64 0, .int .i64 0, .int .i64 0] 25))) := ⟨ballo HB4.out _⟩
  have N5 : Aside0 (w.heap.size ≠ w4.heap.size ∧ w1.heap.size ≤ w4.heap.size) := ⟨by have h1 := HS1.out; have h2 := HB4.out.size; omega⟩
  generalize w4.alloc (Obj.cells #[.int .i64 0, .int .i64 v, .int .i64 0, .int .i64 0, .int .i64 0, .int .i64 0, .int .i64 0, .int .i64 0] 25) = w5 at *
  generalize w4.heap.size = q9 at *
  clear HB2 HB3 HB4
  have qf := Q5.out.frozen
  obtain ⟨q0, q1, q2, q3, q4, q5, q6, q7⟩ := Q5.out.eight
  have QK : Aside0 (EntAt (w5.setCell ⟨q9, 0, none⟩ (.int .i64 0)) q9 [0, v, 0, 0, 0, 0, 0, 0]) := ⟨Q5.out.set 0 0⟩
  have XK : Aside0 (EntAt (w5.setCell ⟨q9, 0, none⟩ (.int .i64 0)) w.heap.size zero8) := ⟨(HX.out.below B5.out).far 0 _ N5.out.1⟩
  have BK : Aside0 (Below w1.heap.size w1 (w5.setCell ⟨q9, 0, none⟩ (.int .i64 0))) := ⟨B5.out.setCell N5.out.2 _⟩
  go_wp2_with (go_at_call 28; (with_reducible refine (read_to q m false _ HQ.out).mono ?_); rintro e w6 ⟨rfl, hB6⟩; have HQ6 := Aside0.mk (QK.out.below hB6); have HX6 := Aside0.mk (XK.out.below hB6); have HB6 := Aside0.mk (bthen BK.out hB6); clear hB6; obtain ⟨c0, c1, c2, c3, c4, c5, c6, c7⟩ := HQ6.out.eight; have cf := HQ6.out.frozen; obtain ⟨e0, e1, e2, e3, e4, e5, e6, e7⟩ := (EntAt.eight (HQ6.out.set 2 m : EntAt _ q9 [0, v, m, 0, 0, 0, 0, 0])); obtain ⟨z0, z1, z2, z3, z4, z5, z6, z7⟩ := (HX6.out.far 2 (.int .i64 m) N5.out.1).eight; have zf := (HX6.out.far 2 (.int .i64 m) N5.out.1).frozen)
  (try simp only [Exit.inBlock, Exit.then])
  refine bodyPost_ret (ent_res (p := 2) (u := 3) _ _ w.heap.size zero8 rfl rfl ((HX6.out.far 2 (.int .i64 m) N5.out.1).set8 rfl 0 0 0 0 0 0 0 0) rfl) rfl ?_
  exact ⟨rfl, below8 (bthen HB.out (HB6.out.setCell N5.out.2 _)) (Nat.le_refl _) 0 0 0 0 0 0 0 0⟩
set_option maxRecDepth 100000 in
set_option maxHeartbeats 20000000 in
theorem entry_move_ok (l r b q : List UInt8) (v m : Int) (w : World) (hm : Mx w) (hl : l.length ≤ 2000000) (h1 : cutB l = (moveW, r)) (h2 : cutB r = (b, q)) (h3 : rdV b = (v, true)) (h4 : rdV q = (m, true)) : Calls Tryd.prog 10 #[.string (bs l)] w fun e w' => e = .returned (.tuple #[.agg ([2, v, m, 0, 0, 0, 0, 0].map (Value.int .i64)).toArray, .int .i64 0]) ∧ Below w.heap.size w w' := by
  have HM := Aside0.mk hm
  have HL := Aside0.mk hl
  have hrl : r.length ≤ 2000000 := by have := (cutB_len l).2; rw [h1] at this; exact Nat.le_trans this hl
  have hql : q.length ≤ 2000000 := by have := (cutB_len r).2; rw [h2] at this; exact Nat.le_trans this hrl
  have H := Aside0.mk (And.intro h1 (And.intro h2 (And.intro h3 (And.intro hrl hql))))
  have HQ := Aside0.mk h4
  clear h4
  clear hm hl h1 h2 h3 hrl hql
  have m1 : (bs moveW).toList = [109, 111, 118, 101] := bs_list _
  go_enter Tryd.func10, Tryd.ntmps10
  have BX : EntAt (w.alloc (Obj.cells #[.int .i64 0, .int .i64 0, .int .i64 0, .int .i64 0, .int .i64 0, .int .i64 0, .int .i64 0, .int .i64 0] 25)) w.heap.size zero8 := blk_new w _
  have BB := ballo (Below.refl w.heap.size w) (Obj.cells #[.int .i64 0, .int .i64 0, .int .i64 0, .int .i64 0, .int .i64 0, .int .i64 0, .int .i64 0, .int .i64 0] 25)
  go_upto_region 1 with fail
  generalize hw1 : w.alloc (Obj.cells #[.int .i64 0, .int .i64 0, .int .i64 0, .int .i64 0, .int .i64 0, .int .i64 0, .int .i64 0, .int .i64 0] 25) = w1 at *
  have HS1 : Aside0 (w1.heap.size = w.heap.size + 1) := ⟨by rw [← hw1]; exact size_al _ _⟩
  clear hw1
  have HX := Aside0.mk BX
  have HB := Aside0.mk BB
  clear BX BB
  go_upto_region 7 with (first
    | (go_at_call 28; have _z := HB3; (with_reducible refine (read_to b v true _ H.out.2.2.1).mono ?_); rintro e w4 ⟨rfl, hB4⟩; have HB4 := Aside0.mk (bthen HB3.out hB4); clear hB4)
    | (go_at_call 27; have _z := HB2; (with_reducible refine (head_calls r b q _ (HM.out.below (bthen HB.out HB2.out)) H.out.2.2.2.1 H.out.2.1).mono ?_); rintro e w3 ⟨rfl, hB3⟩; have HB3 := Aside0.mk (bthen HB2.out hB3); clear hB3)
    | (go_at_call 27; (with_reducible refine (head_calls l moveW r _ (HM.out.below HB.out) HL.out H.out.1).mono ?_); rintro e w2 ⟨rfl, hB2⟩; have HB2 := Aside0.mk hB2; clear hB2))
  have Q5 : Aside0 (EntAt (w4.alloc (Obj.cells #[.int .i64 0, .int .i64 v, .int .i64 0, .int .i64 0, .int .i64 0, .int .i64 0, .int .i64 0, .int .i64 0] 25)) w4.heap.size [0, v, 0, 0, 0, 0, 0, 0]) := ⟨blk_new w4 _⟩
  have B5 : Aside0 (Below w1.heap.size w1 (w4.alloc (Obj.cells #[.int .i64 0, .int .i64 v, .int .i64 0, .int .i64 0, .int .i64 0, .int .i64 0, .int .i64 0, .int .i64 0] 25))) := ⟨ballo HB4.out _⟩
  have N5 : Aside0 (w.heap.size ≠ w4.heap.size ∧ w1.heap.size ≤ w4.heap.size) := ⟨by have h1 := HS1.out; have h2 := HB4.out.size; omega⟩
  generalize w4.alloc (Obj.cells #[.int .i64 0, .int .i64 v, .int .i64 0, .int .i64 0, .int .i64 0, .int .i64 0, .int .i64 0, .int .i64 0] 25) = w5 at *
  generalize w4.heap.size = q9 at *
  clear HB2 HB3 HB4
  have qf := Q5.out.frozen
  obtain ⟨q0, q1, q2, q3, q4, q5, q6, q7⟩ := Q5.out.eight
  have qf0 := (Q5.out.set 0 0).frozen
  have q00 := (EntAt.eight (Q5.out.set 0 0 : EntAt _ q9 [0, v, 0, 0, 0, 0, 0, 0])).1
  have QK : Aside0 (EntAt ((w5.setCell ⟨q9, 0, none⟩ (.int .i64 0)).setCell ⟨q9, 0, none⟩ (.int .i64 2)) q9 [2, v, 0, 0, 0, 0, 0, 0]) := ⟨(Q5.out.set 0 0).set 0 2⟩
  have XK : Aside0 (EntAt ((w5.setCell ⟨q9, 0, none⟩ (.int .i64 0)).setCell ⟨q9, 0, none⟩ (.int .i64 2)) w.heap.size zero8) := ⟨((HX.out.below B5.out).far 0 _ N5.out.1).far 0 _ N5.out.1⟩
  have BK : Aside0 (Below w1.heap.size w1 ((w5.setCell ⟨q9, 0, none⟩ (.int .i64 0)).setCell ⟨q9, 0, none⟩ (.int .i64 2))) := ⟨(B5.out.setCell N5.out.2 _).setCell N5.out.2 _⟩
  go_wp2_with (go_at_call 28; (with_reducible refine (read_to q m true _ HQ.out).mono ?_); rintro e w6 ⟨rfl, hB6⟩; have HQ6 := Aside0.mk (QK.out.below hB6); have HX6 := Aside0.mk (XK.out.below hB6); have HB6 := Aside0.mk (bthen BK.out hB6); clear hB6; obtain ⟨c0, c1, c2, c3, c4, c5, c6, c7⟩ := HQ6.out.eight; have cf := HQ6.out.frozen; obtain ⟨e0, e1, e2, e3, e4, e5, e6, e7⟩ := (EntAt.eight (HQ6.out.set 2 m : EntAt _ q9 [2, v, m, 0, 0, 0, 0, 0])); obtain ⟨z0, z1, z2, z3, z4, z5, z6, z7⟩ := (HX6.out.far 2 (.int .i64 m) N5.out.1).eight; have zf := (HX6.out.far 2 (.int .i64 m) N5.out.1).frozen)
  (try simp only [Exit.inBlock, Exit.then])
  refine bodyPost_ret (ent_res (p := 2) (u := 3) _ _ w.heap.size [2, v, m, 0, 0, 0, 0, 0] rfl rfl ((HX6.out.far 2 (.int .i64 m) N5.out.1).set8 rfl 2 v m 0 0 0 0 0) rfl) rfl ?_
  exact ⟨rfl, below8 (bthen HB.out (HB6.out.setCell N5.out.2 _)) (Nat.le_refl _) 2 v m 0 0 0 0 0⟩
set_option maxRecDepth 100000 in
set_option maxHeartbeats 20000000 in
theorem entry_move_no (l r b q : List UInt8) (v m : Int) (w : World) (hm : Mx w) (hl : l.length ≤ 2000000) (h1 : cutB l = (moveW, r)) (h2 : cutB r = (b, q)) (h3 : rdV b = (v, true)) (h4 : rdV q = (m, false)) : Calls Tryd.prog 10 #[.string (bs l)] w fun e w' => e = .returned (.tuple #[.agg (zero8.map (Value.int .i64)).toArray, .int .i64 4]) ∧ Below w.heap.size w w' := by
  have HM := Aside0.mk hm
  have HL := Aside0.mk hl
  have hrl : r.length ≤ 2000000 := by have := (cutB_len l).2; rw [h1] at this; exact Nat.le_trans this hl
  have hql : q.length ≤ 2000000 := by have := (cutB_len r).2; rw [h2] at this; exact Nat.le_trans this hrl
  have H := Aside0.mk (And.intro h1 (And.intro h2 (And.intro h3 (And.intro hrl hql))))
  have HQ := Aside0.mk h4
  clear h4
  clear hm hl h1 h2 h3 hrl hql
  have m1 : (bs moveW).toList = [109, 111, 118, 101] := bs_list _
  go_enter Tryd.func10, Tryd.ntmps10
  have BX : EntAt (w.alloc (Obj.cells #[.int .i64 0, .int .i64 0, .int .i64 0, .int .i64 0, .int .i64 0, .int .i64 0, .int .i64 0, .int .i64 0] 25)) w.heap.size zero8 := blk_new w _
  have BB := ballo (Below.refl w.heap.size w) (Obj.cells #[.int .i64 0, .int .i64 0, .int .i64 0, .int .i64 0, .int .i64 0, .int .i64 0, .int .i64 0, .int .i64 0] 25)
  go_upto_region 1 with fail
  generalize hw1 : w.alloc (Obj.cells #[.int .i64 0, .int .i64 0, .int .i64 0, .int .i64 0, .int .i64 0, .int .i64 0, .int .i64 0, .int .i64 0] 25) = w1 at *
  have HS1 : Aside0 (w1.heap.size = w.heap.size + 1) := ⟨by rw [← hw1]; exact size_al _ _⟩
  clear hw1
  have HX := Aside0.mk BX
  have HB := Aside0.mk BB
  clear BX BB
  go_upto_region 7 with (first
    | (go_at_call 28; have _z := HB3; (with_reducible refine (read_to b v true _ H.out.2.2.1).mono ?_); rintro e w4 ⟨rfl, hB4⟩; have HB4 := Aside0.mk (bthen HB3.out hB4); clear hB4)
    | (go_at_call 27; have _z := HB2; (with_reducible refine (head_calls r b q _ (HM.out.below (bthen HB.out HB2.out)) H.out.2.2.2.1 H.out.2.1).mono ?_); rintro e w3 ⟨rfl, hB3⟩; have HB3 := Aside0.mk (bthen HB2.out hB3); clear hB3)
    | (go_at_call 27; (with_reducible refine (head_calls l moveW r _ (HM.out.below HB.out) HL.out H.out.1).mono ?_); rintro e w2 ⟨rfl, hB2⟩; have HB2 := Aside0.mk hB2; clear hB2))
  have Q5 : Aside0 (EntAt (w4.alloc (Obj.cells #[.int .i64 0, .int .i64 v, .int .i64 0, .int .i64 0, .int .i64 0, .int .i64 0, .int .i64 0, .int .i64 0] 25)) w4.heap.size [0, v, 0, 0, 0, 0, 0, 0]) := ⟨blk_new w4 _⟩
  have B5 : Aside0 (Below w1.heap.size w1 (w4.alloc (Obj.cells #[.int .i64 0, .int .i64 v, .int .i64 0, .int .i64 0, .int .i64 0, .int .i64 0, .int .i64 0, .int .i64 0] 25))) := ⟨ballo HB4.out _⟩
  have N5 : Aside0 (w.heap.size ≠ w4.heap.size ∧ w1.heap.size ≤ w4.heap.size) := ⟨by have h1 := HS1.out; have h2 := HB4.out.size; omega⟩
  generalize w4.alloc (Obj.cells #[.int .i64 0, .int .i64 v, .int .i64 0, .int .i64 0, .int .i64 0, .int .i64 0, .int .i64 0, .int .i64 0] 25) = w5 at *
  generalize w4.heap.size = q9 at *
  clear HB2 HB3 HB4
  have qf := Q5.out.frozen
  obtain ⟨q0, q1, q2, q3, q4, q5, q6, q7⟩ := Q5.out.eight
  have qf0 := (Q5.out.set 0 0).frozen
  have q00 := (EntAt.eight (Q5.out.set 0 0 : EntAt _ q9 [0, v, 0, 0, 0, 0, 0, 0])).1
  have QK : Aside0 (EntAt ((w5.setCell ⟨q9, 0, none⟩ (.int .i64 0)).setCell ⟨q9, 0, none⟩ (.int .i64 2)) q9 [2, v, 0, 0, 0, 0, 0, 0]) := ⟨(Q5.out.set 0 0).set 0 2⟩
  have XK : Aside0 (EntAt ((w5.setCell ⟨q9, 0, none⟩ (.int .i64 0)).setCell ⟨q9, 0, none⟩ (.int .i64 2)) w.heap.size zero8) := ⟨((HX.out.below B5.out).far 0 _ N5.out.1).far 0 _ N5.out.1⟩
  have BK : Aside0 (Below w1.heap.size w1 ((w5.setCell ⟨q9, 0, none⟩ (.int .i64 0)).setCell ⟨q9, 0, none⟩ (.int .i64 2))) := ⟨(B5.out.setCell N5.out.2 _).setCell N5.out.2 _⟩
  go_wp2_with (go_at_call 28; (with_reducible refine (read_to q m false _ HQ.out).mono ?_); rintro e w6 ⟨rfl, hB6⟩; have HQ6 := Aside0.mk (QK.out.below hB6); have HX6 := Aside0.mk (XK.out.below hB6); have HB6 := Aside0.mk (bthen BK.out hB6); clear hB6; obtain ⟨c0, c1, c2, c3, c4, c5, c6, c7⟩ := HQ6.out.eight; have cf := HQ6.out.frozen; obtain ⟨e0, e1, e2, e3, e4, e5, e6, e7⟩ := (EntAt.eight (HQ6.out.set 2 m : EntAt _ q9 [2, v, m, 0, 0, 0, 0, 0])); obtain ⟨z0, z1, z2, z3, z4, z5, z6, z7⟩ := (HX6.out.far 2 (.int .i64 m) N5.out.1).eight; have zf := (HX6.out.far 2 (.int .i64 m) N5.out.1).frozen)
  (try simp only [Exit.inBlock, Exit.then])
  refine bodyPost_ret (ent_res (p := 2) (u := 3) _ _ w.heap.size zero8 rfl rfl ((HX6.out.far 2 (.int .i64 m) N5.out.1).set8 rfl 0 0 0 0 0 0 0 0) rfl) rfl ?_
  exact ⟨rfl, below8 (bthen HB.out (HB6.out.setCell N5.out.2 _)) (Nat.le_refl _) 0 0 0 0 0 0 0 0⟩
set_option maxRecDepth 100000 in
set_option maxHeartbeats 20000000 in
theorem entry_call_ok (l r b q : List UInt8) (v c0 c1 c2 c3 c4 f : Int) (w : World) (hm : Mx w) (hl : l.length ≤ 2000000) (h1 : cutB l = (callW, r)) (h2 : cutB r = (b, q)) (h3 : rdV b = (v, true)) (h4 : parseT q = ([c0, c1, c2, c3, c4], f)) (h5 : f = 0) : Calls Tryd.prog 10 #[.string (bs l)] w fun e w' => e = .returned (.tuple #[.agg ([1, v, 0, c0, c1, c2, c3, c4].map (Value.int .i64)).toArray, .int .i64 0]) ∧ Below w.heap.size w w' := by
  have HM := Aside0.mk hm
  have HL := Aside0.mk hl
  have hrl : r.length ≤ 2000000 := by have := (cutB_len l).2; rw [h1] at this; exact Nat.le_trans this hl
  have hql : q.length ≤ 2000000 := by have := (cutB_len r).2; rw [h2] at this; exact Nat.le_trans this hrl
  have H := Aside0.mk (And.intro h1 (And.intro h2 (And.intro h3 (And.intro hrl hql))))
  have HQ := Aside0.mk h4
  have qf0 : (f == 0) = true := by simpa using h5
  clear h4 h5
  clear hm hl h1 h2 h3 hrl hql
  have m1 : (bs callW).toList = [99, 97, 108, 108] := bs_list _
  go_enter Tryd.func10, Tryd.ntmps10
  have BX : EntAt (w.alloc (Obj.cells #[.int .i64 0, .int .i64 0, .int .i64 0, .int .i64 0, .int .i64 0, .int .i64 0, .int .i64 0, .int .i64 0] 25)) w.heap.size zero8 := blk_new w _
  have BB := ballo (Below.refl w.heap.size w) (Obj.cells #[.int .i64 0, .int .i64 0, .int .i64 0, .int .i64 0, .int .i64 0, .int .i64 0, .int .i64 0, .int .i64 0] 25)
  go_upto_region 1 with fail
  generalize hw1 : w.alloc (Obj.cells #[.int .i64 0, .int .i64 0, .int .i64 0, .int .i64 0, .int .i64 0, .int .i64 0, .int .i64 0, .int .i64 0] 25) = w1 at *
  have HS1 : Aside0 (w1.heap.size = w.heap.size + 1) := ⟨by rw [← hw1]; exact size_al _ _⟩
  clear hw1
  have HX := Aside0.mk BX
  have HB := Aside0.mk BB
  clear BX BB
  go_upto_region 7 with (first
    | (go_at_call 28; have _z := HB3; (with_reducible refine (read_to b v true _ H.out.2.2.1).mono ?_); rintro e w4 ⟨rfl, hB4⟩; have HB4 := Aside0.mk (bthen HB3.out hB4); clear hB4)
    | (go_at_call 27; have _z := HB2; (with_reducible refine (head_calls r b q _ (HM.out.below (bthen HB.out HB2.out)) H.out.2.2.2.1 H.out.2.1).mono ?_); rintro e w3 ⟨rfl, hB3⟩; have HB3 := Aside0.mk (bthen HB2.out hB3); clear hB3)
    | (go_at_call 27; (with_reducible refine (head_calls l callW r _ (HM.out.below HB.out) HL.out H.out.1).mono ?_); rintro e w2 ⟨rfl, hB2⟩; have HB2 := Aside0.mk hB2; clear hB2))
  have Q5 : Aside0 (EntAt (w4.alloc (Obj.cells #[.int .i64 0, .int .i64 v, .int .i64 0, .int .i64 0, .int .i64 0, .int .i64 0, .int .i64 0, .int .i64 0] 25)) w4.heap.size [0, v, 0, 0, 0, 0, 0, 0]) := ⟨blk_new w4 _⟩
  have B5 : Aside0 (Below w1.heap.size w1 (w4.alloc (Obj.cells #[.int .i64 0, .int .i64 v, .int .i64 0, .int .i64 0, .int .i64 0, .int .i64 0, .int .i64 0, .int .i64 0] 25))) := ⟨ballo HB4.out _⟩
  have N5 : Aside0 (w.heap.size ≠ w4.heap.size ∧ w1.heap.size ≤ w4.heap.size) := ⟨by have h1 := HS1.out; have h2 := HB4.out.size; omega⟩
  generalize w4.alloc (Obj.cells #[.int .i64 0, .int .i64 v, .int .i64 0, .int .i64 0, .int .i64 0, .int .i64 0, .int .i64 0, .int .i64 0] 25) = w5 at *
  generalize w4.heap.size = q9 at *
  clear HB2 HB3 HB4
  have qf := Q5.out.frozen
  obtain ⟨q0, q1, q2, q3, q4, q5, q6, q7⟩ := Q5.out.eight
  have QK : Aside0 (EntAt (w5.setCell ⟨q9, 0, none⟩ (.int .i64 1)) q9 [1, v, 0, 0, 0, 0, 0, 0]) := ⟨Q5.out.set 0 1⟩
  have XK : Aside0 (EntAt (w5.setCell ⟨q9, 0, none⟩ (.int .i64 1)) w.heap.size zero8) := ⟨(HX.out.below B5.out).far 0 _ N5.out.1⟩
  have BK : Aside0 (Below w1.heap.size w1 (w5.setCell ⟨q9, 0, none⟩ (.int .i64 1))) := ⟨B5.out.setCell N5.out.2 _⟩
  go_upto_region 18 with (go_at_call 29; (with_reducible refine (parse_to q c0 c1 c2 c3 c4 f _ (HM.out.below (bthen HB.out BK.out)) H.out.2.2.2.2 HQ.out).mono ?_); rintro e w6 ⟨rfl, hB6⟩; have HB6 := Aside0.mk hB6; clear hB6)
  have hq6 := (QK.out.below HB6.out).alloc (Obj.cells #[.int .i64 c0, .int .i64 c1, .int .i64 c2, .int .i64 c3, .int .i64 c4] 23)
  have HX6 := Aside0.mk ((XK.out.below HB6.out).alloc (Obj.cells #[.int .i64 c0, .int .i64 c1, .int .i64 c2, .int .i64 c3, .int .i64 c4] 23))
  have HB7 := Aside0.mk (ballo (bthen BK.out HB6.out) (Obj.cells #[.int .i64 c0, .int .i64 c1, .int .i64 c2, .int .i64 c3, .int .i64 c4] 23))
  have HC6 : CallAt (w6.alloc (Obj.cells #[.int .i64 c0, .int .i64 c1, .int .i64 c2, .int .i64 c3, .int .i64 c4] 23)) w6.heap.size [c0, c1, c2, c3, c4] := blk_new w6 _
  obtain ⟨f0, f1, f2, f3, f4⟩ := HC6.five
  obtain ⟨c0', c1', c2', c3', c4', c5', c6', c7'⟩ := hq6.eight
  have cf := hq6.frozen
  have hq7 : EntAt _ q9 [1, v, 0, c0, c1, c2, c3, c4] := ((((hq6.set 3 c0).set 4 c1).set 5 c2).set 6 c3).set 7 c4
  have HX7 := Aside0.mk (((((HX6.out.far 3 (.int .i64 c0) N5.out.1).far 4 (.int .i64 c1) N5.out.1).far 5 (.int .i64 c2) N5.out.1).far 6 (.int .i64 c3) N5.out.1).far 7 (.int .i64 c4) N5.out.1)
  obtain ⟨e0, e1, e2, e3, e4, e5, e6, e7⟩ := hq7.eight
  obtain ⟨z0, z1, z2, z3, z4, z5, z6, z7⟩ := HX7.out.eight
  have zf := HX7.out.frozen
  have HB8 := Aside0.mk (((((HB7.out.setCell (p := ⟨q9, 3, none⟩) N5.out.2 (.int .i64 c0)).setCell (p := ⟨q9, 4, none⟩) N5.out.2 (.int .i64 c1)).setCell (p := ⟨q9, 5, none⟩) N5.out.2 (.int .i64 c2)).setCell (p := ⟨q9, 6, none⟩) N5.out.2 (.int .i64 c3)).setCell (p := ⟨q9, 7, none⟩) N5.out.2 (.int .i64 c4))
  go_wp2_with fail
  (try simp only [Exit.inBlock, Exit.then])
  refine bodyPost_ret (ent_res (p := 2) (u := 3) _ _ w.heap.size [1, v, 0, c0, c1, c2, c3, c4] rfl rfl (HX7.out.set8 rfl 1 v 0 c0 c1 c2 c3 c4) rfl) rfl ?_
  exact ⟨rfl, below8 (bthen HB.out HB8.out) (Nat.le_refl _) 1 v 0 c0 c1 c2 c3 c4⟩
set_option maxRecDepth 100000 in
set_option maxHeartbeats 20000000 in
theorem entry_call_no (l r b q : List UInt8) (v c0 c1 c2 c3 c4 f : Int) (w : World) (hm : Mx w) (hl : l.length ≤ 2000000) (h1 : cutB l = (callW, r)) (h2 : cutB r = (b, q)) (h3 : rdV b = (v, true)) (h4 : parseT q = ([c0, c1, c2, c3, c4], f)) (h5 : f ≠ 0) : Calls Tryd.prog 10 #[.string (bs l)] w fun e w' => e = .returned (.tuple #[.agg (zero8.map (Value.int .i64)).toArray, .int .i64 4]) ∧ Below w.heap.size w w' := by
  have HM := Aside0.mk hm
  have HL := Aside0.mk hl
  have hrl : r.length ≤ 2000000 := by have := (cutB_len l).2; rw [h1] at this; exact Nat.le_trans this hl
  have hql : q.length ≤ 2000000 := by have := (cutB_len r).2; rw [h2] at this; exact Nat.le_trans this hrl
  have H := Aside0.mk (And.intro h1 (And.intro h2 (And.intro h3 (And.intro hrl hql))))
  have HQ := Aside0.mk h4
  have qf0 : (f == 0) = false := by simpa using h5
  clear h4 h5
  clear hm hl h1 h2 h3 hrl hql
  have m1 : (bs callW).toList = [99, 97, 108, 108] := bs_list _
  go_enter Tryd.func10, Tryd.ntmps10
  have BX : EntAt (w.alloc (Obj.cells #[.int .i64 0, .int .i64 0, .int .i64 0, .int .i64 0, .int .i64 0, .int .i64 0, .int .i64 0, .int .i64 0] 25)) w.heap.size zero8 := blk_new w _
  have BB := ballo (Below.refl w.heap.size w) (Obj.cells #[.int .i64 0, .int .i64 0, .int .i64 0, .int .i64 0, .int .i64 0, .int .i64 0, .int .i64 0, .int .i64 0] 25)
  go_upto_region 1 with fail
  generalize hw1 : w.alloc (Obj.cells #[.int .i64 0, .int .i64 0, .int .i64 0, .int .i64 0, .int .i64 0, .int .i64 0, .int .i64 0, .int .i64 0] 25) = w1 at *
  have HS1 : Aside0 (w1.heap.size = w.heap.size + 1) := ⟨by rw [← hw1]; exact size_al _ _⟩
  clear hw1
  have HX := Aside0.mk BX
  have HB := Aside0.mk BB
  clear BX BB
  go_upto_region 7 with (first
    | (go_at_call 28; have _z := HB3; (with_reducible refine (read_to b v true _ H.out.2.2.1).mono ?_); rintro e w4 ⟨rfl, hB4⟩; have HB4 := Aside0.mk (bthen HB3.out hB4); clear hB4)
    | (go_at_call 27; have _z := HB2; (with_reducible refine (head_calls r b q _ (HM.out.below (bthen HB.out HB2.out)) H.out.2.2.2.1 H.out.2.1).mono ?_); rintro e w3 ⟨rfl, hB3⟩; have HB3 := Aside0.mk (bthen HB2.out hB3); clear hB3)
    | (go_at_call 27; (with_reducible refine (head_calls l callW r _ (HM.out.below HB.out) HL.out H.out.1).mono ?_); rintro e w2 ⟨rfl, hB2⟩; have HB2 := Aside0.mk hB2; clear hB2))
  have Q5 : Aside0 (EntAt (w4.alloc (Obj.cells #[.int .i64 0, .int .i64 v, .int .i64 0, .int .i64 0, .int .i64 0, .int .i64 0, .int .i64 0, .int .i64 0] 25)) w4.heap.size [0, v, 0, 0, 0, 0, 0, 0]) := ⟨blk_new w4 _⟩
  have B5 : Aside0 (Below w1.heap.size w1 (w4.alloc (Obj.cells #[.int .i64 0, .int .i64 v, .int .i64 0, .int .i64 0, .int .i64 0, .int .i64 0, .int .i64 0, .int .i64 0] 25))) := ⟨ballo HB4.out _⟩
  have N5 : Aside0 (w.heap.size ≠ w4.heap.size ∧ w1.heap.size ≤ w4.heap.size) := ⟨by have h1 := HS1.out; have h2 := HB4.out.size; omega⟩
  generalize w4.alloc (Obj.cells #[.int .i64 0, .int .i64 v, .int .i64 0, .int .i64 0, .int .i64 0, .int .i64 0, .int .i64 0, .int .i64 0] 25) = w5 at *
  generalize w4.heap.size = q9 at *
  clear HB2 HB3 HB4
  have qf := Q5.out.frozen
  obtain ⟨q0, q1, q2, q3, q4, q5, q6, q7⟩ := Q5.out.eight
  have QK : Aside0 (EntAt (w5.setCell ⟨q9, 0, none⟩ (.int .i64 1)) q9 [1, v, 0, 0, 0, 0, 0, 0]) := ⟨Q5.out.set 0 1⟩
  have XK : Aside0 (EntAt (w5.setCell ⟨q9, 0, none⟩ (.int .i64 1)) w.heap.size zero8) := ⟨(HX.out.below B5.out).far 0 _ N5.out.1⟩
  have BK : Aside0 (Below w1.heap.size w1 (w5.setCell ⟨q9, 0, none⟩ (.int .i64 1))) := ⟨B5.out.setCell N5.out.2 _⟩
  go_upto_region 18 with (go_at_call 29; (with_reducible refine (parse_to q c0 c1 c2 c3 c4 f _ (HM.out.below (bthen HB.out BK.out)) H.out.2.2.2.2 HQ.out).mono ?_); rintro e w6 ⟨rfl, hB6⟩; have HB6 := Aside0.mk hB6; clear hB6)
  have hq6 := (QK.out.below HB6.out).alloc (Obj.cells #[.int .i64 c0, .int .i64 c1, .int .i64 c2, .int .i64 c3, .int .i64 c4] 23)
  have HX6 := Aside0.mk ((XK.out.below HB6.out).alloc (Obj.cells #[.int .i64 c0, .int .i64 c1, .int .i64 c2, .int .i64 c3, .int .i64 c4] 23))
  have HB7 := Aside0.mk (ballo (bthen BK.out HB6.out) (Obj.cells #[.int .i64 c0, .int .i64 c1, .int .i64 c2, .int .i64 c3, .int .i64 c4] 23))
  have HC6 : CallAt (w6.alloc (Obj.cells #[.int .i64 c0, .int .i64 c1, .int .i64 c2, .int .i64 c3, .int .i64 c4] 23)) w6.heap.size [c0, c1, c2, c3, c4] := blk_new w6 _
  obtain ⟨f0, f1, f2, f3, f4⟩ := HC6.five
  obtain ⟨c0', c1', c2', c3', c4', c5', c6', c7'⟩ := hq6.eight
  have cf := hq6.frozen
  have hq7 : EntAt _ q9 [1, v, 0, c0, c1, c2, c3, c4] := ((((hq6.set 3 c0).set 4 c1).set 5 c2).set 6 c3).set 7 c4
  have HX7 := Aside0.mk (((((HX6.out.far 3 (.int .i64 c0) N5.out.1).far 4 (.int .i64 c1) N5.out.1).far 5 (.int .i64 c2) N5.out.1).far 6 (.int .i64 c3) N5.out.1).far 7 (.int .i64 c4) N5.out.1)
  obtain ⟨e0, e1, e2, e3, e4, e5, e6, e7⟩ := hq7.eight
  obtain ⟨z0, z1, z2, z3, z4, z5, z6, z7⟩ := HX7.out.eight
  have zf := HX7.out.frozen
  have HB8 := Aside0.mk (((((HB7.out.setCell (p := ⟨q9, 3, none⟩) N5.out.2 (.int .i64 c0)).setCell (p := ⟨q9, 4, none⟩) N5.out.2 (.int .i64 c1)).setCell (p := ⟨q9, 5, none⟩) N5.out.2 (.int .i64 c2)).setCell (p := ⟨q9, 6, none⟩) N5.out.2 (.int .i64 c3)).setCell (p := ⟨q9, 7, none⟩) N5.out.2 (.int .i64 c4))
  go_wp2_with fail
  (try simp only [Exit.inBlock, Exit.then])
  refine bodyPost_ret (ent_res (p := 2) (u := 3) _ _ w.heap.size zero8 rfl rfl (HX7.out.set8 rfl 0 0 0 0 0 0 0 0) rfl) rfl ?_
  exact ⟨rfl, below8 (bthen HB.out HB8.out) (Nat.le_refl _) 0 0 0 0 0 0 0 0⟩
theorem entry_calls (l : List UInt8) (w : World) (hm : Mx w) (hl : l.length ≤ 2000000) : Calls Tryd.prog 10 #[.string (bs l)] w fun e w' => e = .returned (.tuple #[.agg ((entT l).1.map (Value.int .i64)).toArray, .int .i64 (entT l).2]) ∧ Below w.heap.size w w' := by
  obtain ⟨a, r, h1⟩ : ∃ a r, cutB l = (a, r) := ⟨_, _, rfl⟩
  obtain ⟨b, q, h2⟩ : ∃ b q, cutB r = (b, q) := ⟨_, _, rfl⟩
  obtain ⟨v, ok, h3⟩ : ∃ v ok, rdV b = (v, ok) := ⟨_, _, rfl⟩
  obtain ⟨m, is, h4⟩ : ∃ m is, rdV q = (m, is) := ⟨_, _, rfl⟩
  have E : entT l = if ok = true then (if a = stepW then (if is = true then ([0, v, m, 0, 0, 0, 0, 0], 0) else (zero8, 4)) else if a = moveW then (if is = true then ([2, v, m, 0, 0, 0, 0, 0], 0) else (zero8, 4)) else if a = callW then (if (parseT q).2 = 0 then (1 :: v :: 0 :: (parseT q).1, 0) else (zero8, 4)) else (zero8, 4)) else (zero8, 4) := by
    unfold entT
    simp only [h1, h2, h3, h4]
  rw [E]
  clear E
  cases ok with
  | false =>
    rw [if_neg (by decide)]
    exact entry_no l a r b q v w hm hl h1 h2 h3
  | true =>
    rw [if_pos rfl]
    by_cases n1 : a = stepW
    · rw [if_pos n1]
      subst n1
      cases is with
      | true => exact entry_step_ok l r b q v m w hm hl h1 h2 h3 h4
      | false => exact entry_step_no l r b q v m w hm hl h1 h2 h3 h4
    · rw [if_neg n1]
      by_cases n2 : a = moveW
      · rw [if_pos n2]
        subst n2
        cases is with
        | true => exact entry_move_ok l r b q v m w hm hl h1 h2 h3 h4
        | false => exact entry_move_no l r b q v m w hm hl h1 h2 h3 h4
      · rw [if_neg n2]
        by_cases n3 : a = callW
        · rw [if_pos n3]
          subst n3
          have h5 : (parseT q).1.length = 5 := by
            rcases parse_back q with h | ⟨x, h, h5, _⟩
            · rw [h]; rfl
            · rw [h]; exact h5
          obtain ⟨c0, c1, c2, c3, c4, hc⟩ := list5 _ h5
          obtain ⟨f, hf⟩ : ∃ f, (parseT q).2 = f := ⟨_, rfl⟩
          have hp : parseT q = ([c0, c1, c2, c3, c4], f) := Prod.ext hc hf
          rw [hp]
          by_cases f0 : f = 0
          · rw [if_pos f0]
            exact entry_call_ok l r b q v c0 c1 c2 c3 c4 f w hm hl h1 h2 h3 hp f0
          · rw [if_neg f0]
            exact entry_call_no l r b q v c0 c1 c2 c3 c4 f w hm hl h1 h2 h3 hp f0
        · rw [if_neg n3]
          exact entry_other l a r b q v w hm hl h1 h2 h3 n1 n2 n3
end Go.Proofs.YtdaagoagfenadaaDoor.X
namespace Go.Proofs.YtdaagoagfenadaaDoor.X
open Go.RowKit Go.Shelf
set_option linter.unusedVariables false
set_option linter.unusedSimpArgs false
theorem bsize : (Tryd.prog.info? 71).map (·.size) = some 2 := by kernel_rfl
theorem blies : liesAt Tryd.prog Tryd.prog.depth 71 (2 / Tryd.prog.cellsOf 71) 0 71 1 = true := by kernel_rfl
theorem binfo : (Tryd.prog.info? 5).map (fun i => (i.zero, i.size, i.bytes)) = some (some (.int .u8 0), 1, 1) := by kernel_rfl
set_option maxHeartbeats 1000000 in
set_option maxRecDepth 100000 in
theorem copyCheck_used (b : Nat) (w : World) (h0 : w.cell? ⟨b, 0, none⟩ = some (.pointer (some ⟨b, 0, none⟩))) :
    Calls Tryd.prog 50 #[.pointer (some ⟨b, 0, none⟩)] w fun e w' => e = .returned (.tuple #[]) ∧ w' = w := by
  obtain ⟨j, hj, _⟩ := Option.map_eq_some_iff.1 bsize
  go_enter Tryd.func50, Tryd.ntmps50
  go_wp2
  rw [Lib.run_neq_ptr_same w _ Tryd.underlying68 hj]
  go_wp2
  go_end0
  exact ⟨rfl, rfl⟩
set_option maxHeartbeats 1000000 in
set_option maxRecDepth 100000 in
theorem copyCheck_fresh (b : Nat) (w : World) (h0 : w.cell? ⟨b, 0, none⟩ = some (.pointer none)) (hsh : w.shape? b = some (71, 2)) (hfz : w.frozen? ⟨b, 0, none⟩ = false) :
    Calls Tryd.prog 50 #[.pointer (some ⟨b, 0, none⟩)] w fun e w' => e = .returned (.tuple #[]) ∧ w' = w.setCell ⟨b, 0, none⟩ (.pointer (some ⟨b, 0, none⟩)) := by
  obtain ⟨j, hj, hjs⟩ := Option.map_eq_some_iff.1 bsize
  go_enter Tryd.func50, Tryd.ntmps50
  go_wp2
  rw [Lib.run_to_unsafe w ⟨b, 0, none⟩ Tryd.underlying68 Tryd.underlying112 hj (by rw [hjs]; decide) hsh (Nat.zero_lt_succ 1)]
  simp only [Result.andThen]
  rw [Oper.upon_value]
  go_wp2
  rw [run_callFunc_extern Tryd.func59 (by kernel_rfl) (by kernel_rfl) (by kernel_rfl) (e := Extern.AbiNoEscape.same) (by kernel_rfl)]
  rw [Lib.run_noEscape]
  simp only [Result.andThen]
  rw [Oper.upon_value]
  go_wp2
  rw [Lib.run_from_unsafe w ⟨b, 0, none⟩ Tryd.underlying112 Tryd.underlying68 hj hsh blies]
  simp only [Result.andThen]
  rw [Oper.upon_value]
  go_wp2
  go_end0
  exact ⟨rfl, rfl⟩
theorem copyCheck_calls (B b : Nat) (bs : List Value) (w : World) (h : Lib.IsBuilder 71 5 B b bs w) :
    Calls Tryd.prog 50 #[.pointer (some ⟨b, 0, none⟩)] w fun e w' => e = .returned (.tuple #[]) ∧ (Lib.BuilderAt 71 5 B b (.pointer (some ⟨b, 0, none⟩)) bs w' ∧ Below B w w') := by
  rcases h with h | h
  · refine (copyCheck_fresh b w h.cell0 h.shape h.frozen0).mono ?_
    rintro e w' ⟨rfl, rfl⟩
    exact ⟨rfl, h.used _, (Below.refl B w).setCell (p := ⟨b, 0, none⟩) h.1 _⟩
  · refine (copyCheck_used b w h.cell0).mono ?_
    rintro e w' ⟨rfl, rfl⟩
    exact ⟨rfl, h, Below.refl B _⟩
set_option maxHeartbeats 1000000 in
set_option maxRecDepth 100000 in
theorem writeString_calls (B b : Nat) (bs : List Value) (s : ByteArray) (w : World) (h : Lib.IsBuilder 71 5 B b bs w) (hlen : bs.length + s.size ≤ 140737488355328) (hBw : B ≤ w.heap.size) :
    Calls Tryd.prog 33 #[.pointer (some ⟨b, 0, none⟩), .string s] w fun e w' => e = .returned (.tuple #[.int .i64 s.size, .nilIface]) ∧ (Lib.BuilderAt 71 5 B b (.pointer (some ⟨b, 0, none⟩)) (bs ++ Lib.strCells s) w' ∧ Below B w w') := by
  obtain ⟨i0, hi, hz0, hz1, hz2⟩ := info_parts binfo
  go_enter Tryd.func33, Tryd.ntmps33
  go_wp2_with (go_at_call 50; refine (copyCheck_calls B b bs _ h).mono ?_)
  rintro e w1 ⟨rfl, h1, hb1⟩
  obtain ⟨hB, v, hbk, hown, hne⟩ := h1
  have c0 : w1.cell? ⟨b, 0, none⟩ = some (.pointer (some ⟨b, 0, none⟩)) := by rw [Lib.cell_of_heap hbk]; rfl
  have c1 : w1.cell? ⟨b, 1, none⟩ = some v := by rw [Lib.cell_of_heap hbk]; rfl
  go_wp2_with (at_builtin; refine Lib.wpList_append_own_string _ rfl _ _ 69 9 rfl B 5 i0 Tryd.underlying69 Tryd.underlying9 hi hz0 hz1 hz2 _ _ _ rfl hown s rfl ?c3 ?c4 ?c5 ?_)
  case c3 => unfold maxLen; omega
  case c4 => omega
  case c5 => have := hb1.size; omega
  intro v' w2 hown' hgrow _
  have hlt : b < w1.heap.size := by
    rcases Nat.lt_or_ge b w1.heap.size with h' | h'
    · exact h'
    · simp [Array.getElem?_eq_none h'] at hbk
  have hb2 : w2.heap[b]? = some (.cells #[.pointer (some ⟨b, 0, none⟩), v] 71 (0, 0)) := by
    rw [hgrow.block b hlt (fun e => hne e.symm)]
    exact hbk
  have d0 : w2.cell? ⟨b, 0, none⟩ = some (.pointer (some ⟨b, 0, none⟩)) := by rw [Lib.cell_of_heap hb2]; rfl
  have d1 : w2.cell? ⟨b, 1, none⟩ = some v := by rw [Lib.cell_of_heap hb2]; rfl
  have f1 : w2.frozen? ⟨b, 1, none⟩ = false := Lib.frozen_of_heap hb2 1
  obtain ⟨ao, n', cap, rfl⟩ : ∃ ao n' cap, v' = .slice ao n' cap := by
    rcases hown'.2 with ⟨hv, _⟩ | ⟨g, cap, cur, hv, _⟩
    · exact ⟨_, _, _, hv⟩
    · exact ⟨_, _, _, hv⟩
  go_wp2
  go_ret2
  refine ⟨rfl, ?_, ?_⟩
  · exact Lib.BuilderAt.put (T := 71) (e := 5) hB hb2 (bs' := bs ++ Lib.strCells s) (by simpa [Lib.strCells_length] using hown') (by decide)
  · exact (hb1.grown hgrow (by have := hb1.size; omega) (fun k hk => (hown.lt k hk).1)).setCell (p := ⟨b, 1, none⟩) hB _
end Go.Proofs.YtdaagoagfenadaaDoor.X
namespace Go.Proofs.YtdaagoagfenadaaDoor.X
open Go.RowKit Go.Shelf
set_option linter.unusedVariables false
set_option linter.unusedSimpArgs false
/-- What an iterator does that keeps its place in block b, and hands on the texts ls: J: between two rounds; Jx: a round has said 'no more'. Both abide a store into block b; a round that goes on keeps block b. -/
def LinesFrom (F : Fence) (n : Nat) (P : Program) (l gf : Nat) (lb : Array Value) (b : Nat) (ls : List (List UInt8)) (W : World) : Prop :=
  ∀ J Jx : List (List UInt8) → World → Prop, (∀ pre V v, J pre V → J pre (V.setCell ⟨b, 0, none⟩ v)) →
    (∀ pre V, J pre V → J pre V.drew) →
    (∀ pre x V, J pre V → pre ++ [x] <+: ls → YieldAt F (n - 1) P l #[.string (bs x)] V fun e V' =>
      (e = .returned (.bool true) ∧ J (pre ++ [x]) V' ∧ V'.heap[b]? = V.heap[b]?) ∨ (e = .returned (.bool false) ∧ Jx (pre ++ [x]) V')) →
    J [] W → CallsIn F n P gf (#[.func (.yield l) #[] #[]] ++ lb) W fun e V => (∃ v, e = .returned v) ∧ (J ls V ∨ ∃ pre, pre <+: ls ∧ Jx pre V)
/-- How a round's body may be left: it goes on, or returns. -/
def RoundPost (b : Nat) (I Ix : List (List UInt8) → World → Prop) (xs : List (List UInt8)) (W : World) : Exit → Act → World → Prop
  | .normal, _, V => KeepsOthers W V ∧ V.heap[b]? = W.heap[b]? ∧ I xs V
  | .ret, _, V => KeepsOthers W V ∧ Ix xs V
  | _, _, _ => False
/-- The loop's record, and the block for the rounds' deferred calls. -/
def RecAt (q D : Nat) (r : Loop) (V : World) : Prop := V.heap[q]? = some (.loop r) ∧ V.heap[D]? = some (.deferred (some []))
theorem RecAt.keeps {q D : Nat} {r : Loop} {V V' : World} (h : RecAt q D r V) (k : KeepsOthers V V') : RecAt q D r V' := ⟨k.same _ _ h.1 rfl, k.same _ _ h.2 rfl⟩
theorem RecAt.put {q D : Nat} {r : Loop} {V : World} (h : RecAt q D r V) (hn : q ≠ D) (r' : Loop) : RecAt q D r' (V.putObj q (.loop r')) :=
  ⟨World.putObj_heap_same (Array.getElem?_eq_some_iff.1 h.1).1, (World.putObj_heap_other hn.symm).trans h.2⟩
section
variable {F : Fence} {n : Nat} {P : Program}
set_option maxHeartbeats 4000000 in
theorem range_lines {g : Operand} {ps : Array Tmp} {assign body : Code} {Q : Exit → Act → World → Prop} {a : Act} {w : World} {gf : Nat} {lb : Array Value} {b : Nat} {ls : List (List UInt8)}
    (hro : F.round = none) (h1 : 1 ≤ n) (hg : a.eval g = .func (.func gf) #[] lb) (hF : F.fn gf) (eg : ∀ args w, (callFunc gf args).run P w = .ok (.enter gf args) w) (hps : ps.size = 1) (hb : b < w.heap.size)
    (hit : ∀ l W, Below w.heap.size w W → LinesFrom F (n - 1) P l gf lb b ls W)
    (I Ix : List (List UInt8) → World → Prop) (hI : OwnFrom w.heap.size I) (hIx : OwnFrom w.heap.size Ix) (hIb : ∀ pre V v, I pre V → I pre (V.setCell ⟨b, 0, none⟩ v)) (hId : ∀ pre V, I pre V → I pre V.drew) (h0 : I [] w) (a₁ : List UInt8 → Act)
    (hassign : ∀ (l : Nat) (x : List UInt8) (W : World) (K : Act → World → Prop), K (a₁ x) W →
      assign.wpIn (F.inRound l) (n - 1 - 1) P (Exit.then K (fun _ _ _ => False)) { tmps := (ps.zip #[.string (bs x)]).foldl (fun t (p, v) => t.setIfInBounds p v) a.tmps, defers := [] } W)
    (hbody : ∀ (l : Nat) (pre : List (List UInt8)) (x : List UInt8) (W : World), I pre W → pre ++ [x] <+: ls → body.wpIn (F.inRound l) (n - 1 - 1) P (RoundPost b I Ix (pre ++ [x]) W) (a₁ x) W)
    (hdone : ∀ (D : Nat) (W : World), w.heap.size ≤ D → I ls W → W.heap[D]? = some (.deferred (some [])) → Q .normal { a with defers := { target := .collected D, args := #[] } :: a.defers } W)
    (hstop : ∀ (D : Nat) (pre : List (List UInt8)) (W : World), w.heap.size ≤ D → pre <+: ls → Ix pre W → W.heap[D]? = some (.deferred (some [])) → Code.ret.wpIn F n P Q { a with defers := { target := .collected D, args := #[] } :: a.defers } W) :
    (Code.rangeFunc g ps assign body).wpIn F n P Q a w := by
  refine wpIn_rangeFunc fun fn hfn => ?_
  rw [hro]
  let R (s : LoopState) (p : Option Code) : Loop := { state := s, pending := p, fn, tmps := a.tmps, params := ps, assign, body, defers := w.heap.size }
  have hR : ∀ s p, R s p = { state := s, pending := p, fn, tmps := a.tmps, params := ps, assign, body, defers := w.heap.size } := fun _ _ => rfl
  clear_value R
  have ran : ∀ W1, (w.alloc (.deferred (some []))).alloc (.loop (R .ready none)) = W1 → CallsIn F (n - 1) P gf (#[.func (.yield (w.heap.size + 1)) #[] #[]] ++ lb) W1 fun e V => (∃ v, e = .returned v) ∧
      ((I ls V ∧ RecAt (w.heap.size + 1) w.heap.size (R .ready none) V) ∨ ∃ pre, pre <+: ls ∧ (Ix pre V ∧ RecAt (w.heap.size + 1) w.heap.size (R .done (some .ret)) V)) := by
    intro W1 hW1
    have at1 : RecAt (w.heap.size + 1) w.heap.size (R .ready none) W1 := by
      have e1 := World.alloc_heap_new (w.alloc (.deferred (some []))) (.loop (R .ready none))
      rw [World.size_alloc, hW1] at e1
      refine ⟨e1, ?_⟩
      rw [← hW1]
      exact (Below.heap_alloc _ _ _ (by rw [World.size_alloc]; omega)).trans (World.alloc_heap_new w _)
    have below1 : Below w.heap.size w W1 := by
      rw [← hW1]
      exact ((Below.refl _ w).alloc (Nat.le_refl _) _).alloc (by rw [World.size_alloc]; omega) _
    have own1 : I [] W1 := by rw [← hW1]; exact hI.alloc _ (hI.alloc _ h0)
    generalize hq : w.heap.size + 1 = q at *
    have hqD : q ≠ w.heap.size := by omega
    have hqb : q ≠ b := by omega
    refine hit q W1 below1 (fun pre V => I pre V ∧ RecAt q w.heap.size (R .ready none) V) (fun pre V => Ix pre V ∧ RecAt q w.heap.size (R .done (some .ret)) V)
      (fun pre V v h => ⟨hIb pre V v h.1, h.2.keeps (KeepsOthers.setCell _ _ v)⟩) (fun pre V h => ⟨hId pre V h.1, h.2⟩) ?_ ⟨own1, at1⟩
    rintro pre x V ⟨hi, ha⟩ hx
    have hy := run_yield (P := P) (args := #[.string (bs x)]) ha.1 (by rw [hR]; exact hps.symm)
    rw [hR] at hy
    refine ⟨fn, _, assign, body, hy, roundIn_of_wpIn hfn (hassign q x V _ ⟨_, run_beginRound ha.1 (by rw [hR]), ?_⟩)⟩
    have eb : ({ R .ready none with state := .busy } : Loop) = R .busy none := by rw [hR, hR]
    rw [eb]
    have busy := ha.put hqD (R .busy none)
    refine wpIn_mono (hbody q pre x _ (hI.putObj _ hi (by omega) ha.1 rfl) hx) ?_
    rintro e a3 V3 hp
    cases e with
    | normal =>
      obtain ⟨k1, k2, k3⟩ := hp
      have b3 := busy.keeps k1
      have er : ({ R .busy none with state := (if (none : Option Code).isNone then .ready else .done), pending := none } : Loop) = R .ready none := by rw [hR, hR]; rfl
      refine ⟨_, _, run_endRound none b3.1, .inl ⟨rfl, ⟨hI.putObj _ k3 (by omega) b3.1 rfl, ?_⟩, ?_⟩⟩
      · rw [er]; exact b3.put hqD _
      · rw [World.putObj_heap_other hqb.symm, k2, World.putObj_heap_other hqb.symm]
    | ret =>
      obtain ⟨k1, k3⟩ := hp
      have b3 := busy.keeps k1
      have er : ({ R .busy none with state := (if (some Code.ret : Option Code).isNone then .ready else .done), pending := some .ret } : Loop) = R .done (some .ret) := by rw [hR, hR]; rfl
      refine ⟨_, _, run_endRound (some .ret) b3.1, .inr ⟨rfl, hIx.putObj _ k3 (by omega) b3.1 rfl, ?_⟩⟩
      rw [er]; exact b3.put hqD _
    | exit id => exact hp.elim
    | goto t => exact hp.elim
    | panic ch => exact hp.elim
    | outgrown => exact hp.elim
  obtain ⟨W1, hW1⟩ : ∃ W1, (w.alloc (.deferred (some []))).alloc (.loop (R .ready none)) = W1 := ⟨_, rfl⟩
  have hent : (Instr.enterLoop fn a.tmps ps assign body none).run P w = .ok (w.heap.size + 1, [{ target := .collected w.heap.size, args := #[] }]) W1 := by
    rw [← hW1, hR]
    exact run_enterLoop_outer _ _ _ _ _
  have ran1 := ran W1 hW1
  clear ran hent
  refine ⟨w.heap.size + 1, [{ target := .collected w.heap.size, args := #[] }], W1, { target := .fn (.func gf) lb, args := #[.func (.yield (w.heap.size + 1)) #[] #[]] }, W1, gf, #[.func (.yield (w.heap.size + 1)) #[] #[]] ++ lb, W1, ?_, ?_, ?_, ?_, fun _ => h1, ?_⟩
  · rw [← hW1, hR]
    exact run_enterLoop_outer _ _ _ _ _
  · simp only [resolve, hg]
    simp [go_sem]
  · intro f' hf'
    simp [Target.leads] at hf'
    subst hf'
    exact hF
  · simp [invoke, go_sem, eg]
  · refine CallsIn.mono ran1 ?_
    rintro e V ⟨⟨v, rfl⟩, (⟨hi, ha⟩ | ⟨pre, hpre, hi, ha⟩)⟩
    · obtain ⟨o, h⟩ : ∃ o, (Instr.endLoop (w.heap.size + 1)).run P V = .ok none (V.putObj (w.heap.size + 1) o) := by
        have h := run_endLoop (P := P) ha.1 (by rw [hR]; simp)
        rw [hR] at h
        exact ⟨_, h⟩
      exact ⟨none, V.putObj (w.heap.size + 1) o, h, hdone w.heap.size _ (Nat.le_refl _) (hI.putObj _ hi (by omega) ha.1 rfl) ((World.putObj_heap_other (by omega)).trans ha.2)⟩
    · obtain ⟨o, h⟩ : ∃ o, (Instr.endLoop (w.heap.size + 1)).run P V = .ok (some .ret) (V.putObj (w.heap.size + 1) o) := by
        have h := run_endLoop (P := P) ha.1 (by rw [hR]; simp)
        rw [hR] at h
        exact ⟨_, h⟩
      exact ⟨some .ret, V.putObj (w.heap.size + 1) o, h, hstop w.heap.size pre _ (Nat.le_refl _) hpre (hIx.putObj _ hi (by omega) ha.1 rfl) ((World.putObj_heap_other (by omega)).trans ha.2)⟩
end
end Go.Proofs.YtdaagoagfenadaaDoor.X
namespace Go.Proofs.YtdaagoagfenadaaDoor.X
open Go.RowKit Go.Shelf Go.Proofs.YtdaagoagfenadaaDoorW.PrintWords Go.Proofs.YtdaagoagfenadaaDoorW.PrintLast Go.Proofs.YtdaagoagfenadaaDoorW.PrintMore
set_option linter.unusedVariables false
set_option linter.unusedSimpArgs false
/-- A text's lines, each with its feed. -/
def linesL : List UInt8 → List (List UInt8)
  | [] => []
  | c :: r => if c = 10 then [10] :: linesL r else match linesL r with
    | f :: fs => (c :: f) :: fs
    | [] => [[c]]
theorem lines_none : ∀ s : List UInt8, s ≠ [] → Lib.indexByte s 10 = -1 → linesL s = [s]
  | [], h, _ => absurd rfl h
  | c :: r, _, h => by
    unfold Lib.indexByte at h
    by_cases hc : c = 10
    · subst hc; simp at h
    · rw [if_neg (by simpa using hc)] at h
      have hr : Lib.indexByte r 10 = -1 := by
        by_cases h2 : (Lib.indexByte r 10 == -1) = true
        · simpa using h2
        · rw [if_neg h2] at h
          have := Lib.indexByte_ge r 10
          omega
      unfold linesL
      rw [if_neg hc]
      cases r with
      | nil => rfl
      | cons d r => rw [lines_none (d :: r) (by simp) hr]
theorem lines_some : ∀ (s : List UInt8) (o : Nat), Lib.indexByte s 10 = (o : Int) → o < s.length ∧ linesL s = s.take (o + 1) :: linesL (s.drop (o + 1))
  | [], o, h => by unfold Lib.indexByte at h; omega
  | c :: r, o, h => by
    unfold Lib.indexByte at h
    by_cases hc : c = 10
    · subst hc
      rw [if_pos (by rfl)] at h
      obtain rfl : o = 0 := by omega
      refine ⟨by simp, ?_⟩
      conv => lhs; unfold linesL
      rw [if_pos rfl]
      rfl
    · rw [if_neg (by simpa using hc)] at h
      by_cases h2 : (Lib.indexByte r 10 == -1) = true
      · rw [if_pos h2] at h; omega
      · rw [if_neg h2] at h
        obtain ⟨p, rfl⟩ : ∃ p, o = p + 1 := ⟨o - 1, by have := Lib.indexByte_ge r 10; simp at h2; omega⟩
        obtain ⟨h3, h4⟩ := lines_some r p (by omega)
        refine ⟨by rw [List.length_cons]; omega, ?_⟩
        conv => lhs; unfold linesL
        rw [if_neg hc, h4]
        rfl
theorem box_keep {W W' : World} {b : Nat} {v : Value} {t : TypeId} (h : W.heap[b]? = some (.cells #[v] t)) (k : W'.heap[b]? = W.heap[b]?) : W'.heap[b]? = some (.cells #[v] t) := k.trans h
theorem idx_calls (l : List UInt8) (i : Int) (w : World) (h : Lib.indexByte l 10 = i) : Calls Tryd.prog 52 #[.string (bs l), .int .u8 10] w fun e w' => e = .returned (.int .i64 i) ∧ w' = w := by
  have := Tryd.strings_IndexByte (bs l) 10 w
  rw [show Lib.indexByte (bs l).data.toList ((10 : Int).toNat.toUInt8) = i from h] at this
  exact this
def boxLen (b : Nat) (W : World) : Nat := match W.cell? ⟨b, 0, none⟩ with
  | some (.string x) => x.size
  | _ => 0
theorem boxLen_eq {W : World} {b : Nat} {l : List UInt8} (h : W.heap[b]? = some (.cells #[.string (bs l)] 9)) : boxLen b W = l.length := by
  unfold boxLen
  rw [blk_cell h]
  exact bs_size l
set_option maxRecDepth 100000 in
set_option maxHeartbeats 4000000 in
theorem lines_iter (n : Nat) (hn : 1 ≤ n) (l b : Nat) (s : List UInt8) (hs : s.length ≤ 100000) (W : World) (hb : W.heap[b]? = some (.cells #[.string (bs s)] 9)) : LinesFrom Fence.wide n Tryd.prog l 51 #[.pointer (some ⟨b, 0, none⟩)] b (linesL s) W := by
  intro J Jx hJs hJd hY h0
  refine callsIn_of_wp Tryd.func51 rfl trivial ?_ rfl
  simp only [Tryd.ntmps51, List.size_toArray, List.length_cons, List.length_nil, Nat.reduceAdd, Nat.reduceSub, Array.replicate_succ, Array.replicate_zero, List.push_toArray, List.append_toArray, List.nil_append, List.cons_append]
  gi_wp2
  gi_loopw [3] (fun p wr => ∃ (pre : List (List UInt8)) (rest : List UInt8), linesL s = pre ++ linesL rest ∧ rest.length ≤ 100000 ∧ wr.heap[b]? = some (.cells #[.string (bs rest)] 9) ∧ J pre wr)
    (fun p wr => boxLen b wr)
  case atStart => exact ⟨[], s, rfl, hs, hb, h0⟩
  case round =>
    obtain ⟨pre, rest, hx, hl, hbx, hJp⟩ := hrel
    have cb : _ = some (Value.string (bs rest)) := blk_cell hbx 0
    have fb := blk_frozen hbx 0
    have hsz := bs_size rest
    by_cases h0 : rest = []
    · subst h0
      have hlt : decide ((0 : Int) < (([] : List UInt8).length : Int)) = false := rfl
      gi_wp2
      go_end0
      exact ⟨⟨_, rfl⟩, .inl (by rw [hx]; show J (pre ++ []) wr; rw [List.append_nil]; exact hJp)⟩
    · have hpos : 0 < rest.length := List.length_pos_iff.2 h0
      have hlt : decide ((0 : Int) < (rest.length : Int)) = true := decide_eq_true (by omega)
      by_cases hi : Lib.indexByte rest 10 = -1
      · have hls := lines_none rest h0 hi
        have hpre : pre ++ [rest] = linesL s := by rw [hx, hls]
        have HJ := hJs pre wr (.string ⟨#[]⟩) hJp
        have hbx2 := blk_set hbx 0 (.string ⟨#[]⟩)
        obtain ⟨fn, tmps, assign, body, hy, hR⟩ := hY pre rest _ HJ (hpre ▸ List.prefix_refl _)
        have HI := Aside0.mk hi
        clear hi
        gi_wp2_with (refine ⟨trivial, ?_⟩; gi_at_call 52; refine (callsIn_wide.2 (idx_calls rest (-1) _ HI.out)).mono ?_; rintro e w1 ⟨rfl, rfl⟩)
        refine hR.mono ?_
        rintro e W3 (⟨rfl, hJ3, hk3⟩ | ⟨rfl, hJx3⟩)
        · have hb3 : W3.heap[b]? = some (.cells #[.string (bs [])] 9) := hk3.trans hbx2
          gi_wp2
          go_roundw
          case rel => exact ⟨pre ++ [rest], [], by rw [hpre]; show _ = linesL s ++ []; rw [List.append_nil], Nat.zero_le _, hb3, hJ3⟩
          case measure => rw [boxLen_eq hb3, boxLen_eq hbx]; exact hpos
        · gi_wp2
          refine bodyPost_ret (results_none rfl _ _ _) rfl ?_
          exact ⟨⟨_, rfl⟩, .inr ⟨pre ++ [rest], hpre ▸ List.prefix_refl _, hJx3⟩⟩
      · obtain ⟨o, ho⟩ : ∃ o : Nat, Lib.indexByte rest 10 = (o : Int) := ⟨(Lib.indexByte rest 10).toNat, by have := Lib.indexByte_ge rest 10; omega⟩
        obtain ⟨hol, hls⟩ := lines_some rest o ho
        have HO := Aside0.mk ho
        clear hi ho
        have hlt2 : decide ((0 : Int) ≤ (o : Int)) = true := decide_eq_true (by omega)
        have hw : IntKind.i64.wrap ((o : Int) + 1) = (o : Int) + 1 := IntWalk.i64_in _ (by omega)
        have k0 : (0 : Int) ≤ (o : Int) + 1 := by omega
        have k1 : (o : Int) + 1 ≤ (rest.length : Int) := by omega
        gi_wp2_with (refine ⟨trivial, ?_⟩; gi_at_call 52; refine (callsIn_wide.2 (idx_calls rest o _ HO.out)).mono ?_; rintro e w1 ⟨rfl, rfl⟩)
        gi_region
        have e1 : (bs rest).extract 0 (o + 1) = bs (rest.take (o + 1)) := by rw [bs_extract, List.drop_zero]
        have e2 : (bs rest).extract (o + 1) rest.length = bs (rest.drop (o + 1)) := by rw [bs_extract, List.take_length]
        rw [e1, e2]
        have hdl : (rest.drop (o + 1)).length < rest.length := by rw [List.length_drop]; omega
        obtain ⟨ln, hln⟩ : ∃ ln, rest.take (o + 1) = ln := ⟨_, rfl⟩
        obtain ⟨rs, hrs⟩ : ∃ rs, rest.drop (o + 1) = rs := ⟨_, rfl⟩
        rw [hln, hrs] at hls
        rw [hln, hrs]
        rw [hrs] at hdl
        clear hln hrs e1 e2
        have HJ := hJd pre _ (hJs pre w1 (.string (bs rs)) hJp)
        have hbx2 := blk_drew (blk_set hbx 0 (.string (bs rs)))
        have hpre : pre ++ [ln] <+: linesL s := by rw [hx, hls]; exact ⟨linesL rs, by simp⟩
        generalize (w1.setCell ⟨b, 0, none⟩ (.string (bs rs))).drew = w5 at *
        obtain ⟨fn, tmps, assign, body, hy, hR⟩ := hY pre ln _ HJ hpre
        gi_wp2
        refine hR.mono ?_
        rintro e W3 (⟨rfl, hJ3, hk3⟩ | ⟨rfl, hJx3⟩)
        · have hb3 : W3.heap[b]? = some (.cells #[.string (bs rs)] 9) := hk3.trans hbx2
          gi_wp2
          go_roundw
          case rel => exact ⟨pre ++ [ln], rs, by rw [hx, hls]; simp, by omega, hb3, hJ3⟩
          case measure => rw [boxLen_eq hb3, boxLen_eq hbx]; exact hdl
        · gi_wp2
          refine bodyPost_ret (results_none rfl _ _ _) rfl ?_
          exact ⟨⟨_, rfl⟩, .inr ⟨pre ++ [ln], hpre, hJx3⟩⟩
end Go.Proofs.YtdaagoagfenadaaDoor.X
namespace Go.Proofs.YtdaagoagfenadaaDoor.X
open Go.RowKit Go.Proofs.YtdaagoagfenadaaDoor.YAll Go.Proofs.YtdaagoagfenadaaDoorW.PrintWords Go.Proofs.YtdaagoagfenadaaDoorW.PrintLast Go.Proofs.YtdaagoagfenadaaDoorW.PrintMore
set_option linter.unusedVariables false
set_option linter.unusedSimpArgs false
def in64B (n : Int) : Bool := decide (-9223372036854775808 ≤ n) && decide (n ≤ 9223372036854775807)
theorem in64B_of {l : List Int} (h : l.all in64B = true) : ∀ x ∈ l, In64 x := fun x hx => by
  have := List.all_eq_true.1 h x hx
  unfold in64B at this
  rw [Bool.and_eq_true, decide_eq_true_eq, decide_eq_true_eq] at this
  exact this
def script_Line.f (a0_0 a0_1 a0_2 a0_3 a0_4 a0_5 a0_6 a0_7 : Int) : Option (ByteArray × Int) := if [a0_0, a0_1, a0_2, a0_3, a0_4, a0_5, a0_6, a0_7].all in64B = true then some (bs (lineT a0_0 a0_1 a0_2 [a0_3, a0_4, a0_5, a0_6, a0_7]).1, (lineT a0_0 a0_1 a0_2 [a0_3, a0_4, a0_5, a0_6, a0_7]).2) else none
theorem script_Line.calls (a0_0 a0_1 a0_2 a0_3 a0_4 a0_5 a0_6 a0_7 : Int) (r1 : ByteArray) (r2 : Int) (w : World) (h : script_Line.f a0_0 a0_1 a0_2 a0_3 a0_4 a0_5 a0_6 a0_7 = some (r1, r2)) :
    Calls Tryd.prog 8 #[.agg #[.int .i64 a0_0, .int .i64 a0_1, .int .i64 a0_2, .int .i64 a0_3, .int .i64 a0_4, .int .i64 a0_5, .int .i64 a0_6, .int .i64 a0_7]] w fun e w' => e = .returned (.tuple #[.string r1, .int .i64 r2]) ∧ Below w.heap.size w w' := by
  unfold script_Line.f at h
  split at h
  · rename_i hc
    obtain ⟨rfl, rfl⟩ := Prod.mk.inj (Option.some.inj h)
    exact line_calls a0_0 a0_1 a0_2 a0_3 a0_4 a0_5 a0_6 a0_7 w (in64B_of hc)
  · cases h

end Go.Proofs.YtdaagoagfenadaaDoor.X

/- Contracts of the layers 30 and 31, and plain facts on texts, one behind the other: script.Print tells printT. Conditions: the numbers are numbers of 64 bits. | script.Parse tells parseTT. Conditions: the cell of MaxLen. | script.Entry, Print, Parse in the print's form. Conditions: the cell of MaxLen, where Entry or Parse of script is called. | Plain: scripts as texts, there and back. Conditions: none. -/
import Derived.Test.YtdaagoagfenadaaDoorYTwx0
import Derived.Test.YtdaagoagfenadaaDoorMB
import Derived.RangeFuncBox
import Derived.Maps.AppendAt
namespace Go.Proofs.YtdaagoagfenadaaDoor.X
open Go.RowKit Go.Shelf Go.Proofs.YtdaagoagfenadaaDoor.YTw Go.Proofs.YtdaagoagfenadaaDoorW.PrintWords Go.Proofs.YtdaagoagfenadaaDoorW.PrintLast Go.Proofs.YtdaagoagfenadaaDoorW.PrintMore
set_option linter.unusedVariables false
set_option linter.unusedSimpArgs false
def nums (x : S25) : List Int := [x.f0, x.f1, x.f2, x.f3.f0, x.f3.f1, x.f3.f2, x.f3.f3, x.f3.f4]
def lineS (x : S25) : List UInt8 × Int := lineT x.f0 x.f1 x.f2 [x.f3.f0, x.f3.f1, x.f3.f2, x.f3.f3, x.f3.f4]
def printG : List S25 → List UInt8 → List UInt8 × Int
  | [], acc => if 65536 < acc.length then ([], 20) else (acc, 0)
  | x :: r, acc => if (lineS x).2 = 0 then printG r (acc ++ (lineS x).1 ++ [10]) else ([], (lineS x).2)
/-- A script's text. -/
def printT (l : List S25) : List UInt8 × Int := if 4096 < l.length then ([], 20) else printG l []
theorem line_to (t : List UInt8) (f : Int) (x0 x1 x2 x3 x4 x5 x6 x7 : Int) (w : World) (hI : ∀ x ∈ [x0, x1, x2, x3, x4, x5, x6, x7], In64 x) (h : lineT x0 x1 x2 [x3, x4, x5, x6, x7] = (t, f)) :
    Calls Tryd.prog 8 #[.agg #[.int .i64 x0, .int .i64 x1, .int .i64 x2, .int .i64 x3, .int .i64 x4, .int .i64 x5, .int .i64 x6, .int .i64 x7]] w fun e w' => e = .returned (.tuple #[.string (bs t), .int .i64 f]) ∧ Below w.heap.size w w' := by
  have := line_calls x0 x1 x2 x3 x4 x5 x6 x7 w hI
  rw [h] at this
  exact this
theorem line_len (k w n : Int) (c : List Int) (hw : In64 w) (hn : In64 n) (hc : ∀ x ∈ c, In64 x) : (lineT k w n c).1.length ≤ 100 := by
  have l1 := numL_len w hw
  have l2 := numL_len n hn
  have l3 := callT_len c hc
  unfold lineT
  split
  · rw [jn3]; simp only [List.length_append, List.length_cons, stepW, List.length_nil]; omega
  · split
    · rw [jn3]; simp only [List.length_append, List.length_cons, moveW, List.length_nil]; omega
    · split
      · rw [jn3]; simp only [List.length_append, List.length_cons, callW, List.length_nil]; omega
      · exact Nat.zero_le _
theorem builder_below {T e : TypeId} {B b : Nat} {bs : List Value} {W W' : World} (h : Lib.IsBuilder T e B b bs W) (hb : Below W.heap.size W W') : Lib.IsBuilder T e B b bs W' := by
  have key : ∀ p, Lib.BuilderAt T e B b p bs W → Lib.BuilderAt T e B b p bs W' := by
    intro p hp
    have hlt := hp.lt
    obtain ⟨hB, v, hv, hown, hne⟩ := hp
    exact ⟨hB, v, (hb.block b hlt).trans hv, pw_own_below hown hb, hne⟩
  exact h.elim (fun x => .inl (key _ x)) (fun x => .inr (key _ x))
def Bld (B b : Nat) (acc : List UInt8) (W : World) : Prop := Lib.IsBuilder 71 5 B b (Lib.byteCells acc) W
theorem Bld.below {B b : Nat} {acc : List UInt8} {W W' : World} (h : Bld B b acc W) (hb : Below W.heap.size W W') : Bld B b acc W' := builder_below h hb
theorem Bld.write {B b : Nat} {acc : List UInt8} {w : World} (h : Bld B b acc w) (t : List UInt8) (hlen : acc.length + t.length ≤ 140737488355328) (hBw : B ≤ w.heap.size) :
    Calls Tryd.prog 33 #[.pointer (some ⟨b, 0, none⟩), .string (bs t)] w fun e w' => e = .returned (.tuple #[.int .i64 (bs t).size, .nilIface]) ∧ Bld B b (acc ++ t) w' ∧ Below B w w' := by
  refine (writeString_calls B b (Lib.byteCells acc) (bs t) w h (by rw [Lib.byteCells_length, bs_size]; exact hlen) hBw).mono ?_
  rintro e w' ⟨rfl, h1, h2⟩
  refine ⟨rfl, .inr ?_, h2⟩
  have e1 : Lib.byteCells acc ++ Lib.strCells (bs t) = Lib.byteCells (acc ++ t) := by
    rw [Lib.strCells_eq]
    show _ ++ Lib.byteCells t = _
    unfold Lib.byteCells
    rw [List.map_append]
  rw [← e1]
  exact h1
theorem Bld.feed {B b : Nat} {acc : List UInt8} {w : World} (h : Bld B b acc w) (hlen : acc.length + 1 ≤ 140737488355328) (hBw : B ≤ w.heap.size) :
    Calls Tryd.prog 33 #[.pointer (some ⟨b, 0, none⟩), .string ⟨#[10]⟩] w fun e w' => e = .returned (.tuple #[.int .i64 (bs [10]).size, .nilIface]) ∧ Bld B b (acc ++ [10]) w' ∧ Below B w w' := h.write [10] hlen hBw
theorem Bld.len {B b : Nat} {acc : List UInt8} {w : World} (h : Bld B b acc w) : Calls Tryd.prog 34 #[.pointer (some ⟨b, 0, none⟩)] w fun e w' => e = .returned (.int .i64 acc.length) ∧ w' = w := by
  have := Tryd.Builder_Len B b _ w h
  rw [Lib.byteCells_length] at this
  exact this
theorem Bld.str {B b : Nat} {acc : List UInt8} {w : World} (h : Bld B b acc w) (hBw : B ≤ w.heap.size) : Calls Tryd.prog 35 #[.pointer (some ⟨b, 0, none⟩)] w fun e w' => e = .returned (.string (bs acc)) ∧ Below B w w' := Tryd.Builder_String_any B b acc w h hBw
theorem drop_rd (l : List S25) (i : Nat) (h : i < l.length) : l.drop i = rd_T25 l (i : Int) :: l.drop (i + 1) := by
  rw [List.drop_eq_getElem_cons h]
  congr 1
  unfold rd_T25
  simp [List.getD, h]
theorem rd_mem (l : List S25) (i : Nat) (h : i < l.length) : rd_T25 l (i : Int) ∈ l := by
  have : rd_T25 l (i : Int) = l[i] := by unfold rd_T25; simp [List.getD, h]
  rw [this]
  exact List.getElem_mem h
set_option maxRecDepth 100000 in
set_option maxHeartbeats 20000000 in
theorem print_walk (l : List S25) (A : Option Addr) (c : Nat) (t : List UInt8) (g : Int) (w : World) (hr : Kd.C k25 w A l.length l) (hc : l.length ≤ c) (hI : ∀ x ∈ l, ∀ y ∈ nums x, In64 y) (h : printT l = (t, g)) :
    Calls Tryd.prog 13 #[.slice A l.length c] w fun e w' => e = .returned (.tuple #[.string (bs t), .int .i64 g]) ∧ Below w.heap.size w w' := by
  have HR := Aside0.mk hr
  have HI := Aside0.mk hI
  clear hr hI
  unfold printT at h
  by_cases hb : 4096 < l.length
  · rw [if_pos hb] at h
    obtain ⟨rfl, rfl⟩ := Prod.mk.inj h
    clear h
    have c1 : decide ((4096 : Int) < (l.length : Int)) = true := decide_eq_true (by omega)
    have c2 : decide (4096 < l.length) = true := decide_eq_true hb
    clear hb
    go_enter Tryd.func13, Tryd.ntmps13
    go_wp2
    go_ret2
    exact ⟨rfl, Below.refl _ _⟩
  · rw [if_neg hb] at h
    have c1 : decide ((4096 : Int) < (l.length : Int)) = false := decide_eq_false (by omega)
    have c2 : decide (4096 < l.length) = false := decide_eq_false hb
    have HG := Aside0.mk h
    have HN := Aside0.mk hb
    clear hb h
    go_enter Tryd.func13, Tryd.ntmps13
    have B0 : Bld w.heap.size w.heap.size [] (w.alloc (Obj.cells #[.pointer none, .slice none 0 0] 71)) := Lib.fresh_isBuilder _ _ w
    have BB := ballo (Below.refl w.heap.size w) (Obj.cells #[.pointer none, .slice none 0 0] 71)
    go_upto_region 4 with fail
    generalize w.alloc (Obj.cells #[.pointer none, .slice none 0 0] 71) = w1 at *
    have HB0 := Aside0.mk B0
    have HB := Aside0.mk BB
    clear B0 BB
    go_wp2
    go_loopg [14] l.length (fun kq v14 w' => ∃ (i : Nat) (acc : List UInt8), v14 = .int .i64 (i : Int) ∧ i + kq = l.length ∧ Aside0 (acc.length ≤ 200 * i) ∧ Aside0 (printG (l.drop i) acc = (t, g)) ∧ Aside0 (Bld w.heap.size w.heap.size acc w') ∧ Aside0 (Below w.heap.size w w'))
    case atStart => exact ⟨0, [], rfl, by omega, ⟨Nat.zero_le _⟩, HG, HB0, HB⟩
    case round =>
      clear HG HB0 HB
      obtain ⟨i, acc, rfl, hik, HA, HG, HD, HB⟩ := hrel
      by_cases hi : i < l.length
      · have d1 : decide ((i : Int) < (l.length : Int)) = true := decide_eq_true (by omega)
        obtain ⟨ad, e0, hx0, hx1, hx2, hx3, hx4, hx5, hx6, hx7⟩ := at_T25 HR.out (i : Int) (by omega) (by omega)
        cases e0
        have hmem := rd_mem l i hi
        have hdr := drop_rd l i hi
        obtain ⟨X, hX⟩ : ∃ x, rd_T25 l (i : Int) = x := ⟨_, rfl⟩
        rw [show ((i : Int)).toNat = i from Int.toNat_natCast i] at hx0 hx1 hx2 hx3 hx4 hx5 hx6 hx7
        rw [hX] at hx0 hx1 hx2 hx3 hx4 hx5 hx6 hx7 hmem hdr
        clear hX
        obtain ⟨x0, x1, x2, ⟨x3, x4, x5, x6, x7⟩⟩ := X
        have hg := HG.out
        rw [hdr] at hg
        clear HG
        obtain ⟨t1, f1, hl⟩ : ∃ t1 f1, lineT x0 x1 x2 [x3, x4, x5, x6, x7] = (t1, f1) := ⟨_, _, rfl⟩
        have hI8 : ∀ y ∈ [x0, x1, x2, x3, x4, x5, x6, x7], In64 y := HI.out _ hmem
        have ht1 : t1.length ≤ 100 := by
          have := line_len x0 x1 x2 [x3, x4, x5, x6, x7] (hI8 x1 (by simp)) (hI8 x2 (by simp)) (fun x hx => hI8 x (by simp at hx ⊢; rcases hx with h | h | h | h | h <;> simp [h]))
          rw [hl] at this
          exact this
        have hg2 : (if f1 = 0 then printG (l.drop (i + 1)) (acc ++ t1 ++ [10]) else ([], f1)) = (t, g) := by
          have e1 : lineS ⟨x0, x1, x2, ⟨x3, x4, x5, x6, x7⟩⟩ = (t1, f1) := hl
          rw [← hg]
          show _ = (if (lineS ⟨x0, x1, x2, ⟨x3, x4, x5, x6, x7⟩⟩).2 = 0 then printG (l.drop (i + 1)) (acc ++ (lineS ⟨x0, x1, x2, ⟨x3, x4, x5, x6, x7⟩⟩).1 ++ [10]) else ([], (lineS ⟨x0, x1, x2, ⟨x3, x4, x5, x6, x7⟩⟩).2))
          rw [e1]
        clear hg hdr hmem
        have HL := Aside0.mk (And.intro hI8 (And.intro hl ht1))
        have HG := Aside0.mk hg2
        have HN2 := Aside0.mk hi
        clear hl ht1 hI8 hg2 hi
        replace hx0 := (HB.out.cell (World.block_lt_of_cell? w _ hx0)).trans hx0
        replace hx1 := (HB.out.cell (World.block_lt_of_cell? w _ hx1)).trans hx1
        replace hx2 := (HB.out.cell (World.block_lt_of_cell? w _ hx2)).trans hx2
        replace hx3 := (HB.out.cell (World.block_lt_of_cell? w _ hx3)).trans hx3
        replace hx4 := (HB.out.cell (World.block_lt_of_cell? w _ hx4)).trans hx4
        replace hx5 := (HB.out.cell (World.block_lt_of_cell? w _ hx5)).trans hx5
        replace hx6 := (HB.out.cell (World.block_lt_of_cell? w _ hx6)).trans hx6
        replace hx7 := (HB.out.cell (World.block_lt_of_cell? w _ hx7)).trans hx7
        have p1 : (0 : Int) ≤ (i : Int) := by omega
        have p2 : ((i : Int) < (l.length : Int)) = True := eq_true (by have := HN2.out; omega)
        replace p1 := eq_true p1
        have BX : EntAt (wr.alloc (Obj.cells #[.int .i64 x0, .int .i64 x1, .int .i64 x2, .int .i64 x3, .int .i64 x4, .int .i64 x5, .int .i64 x6, .int .i64 x7] 25)) wr.heap.size [x0, x1, x2, x3, x4, x5, x6, x7] := blk_new wr _
        have BB := ballo HB.out (Obj.cells #[.int .i64 x0, .int .i64 x1, .int .i64 x2, .int .i64 x3, .int .i64 x4, .int .i64 x5, .int .i64 x6, .int .i64 x7] 25)
        have BD := HD.out.below (ballo (Below.refl _ wr) (Obj.cells #[.int .i64 x0, .int .i64 x1, .int .i64 x2, .int .i64 x3, .int .i64 x4, .int .i64 x5, .int .i64 x6, .int .i64 x7] 25))
        go_upto_region 7 with fail
        generalize hw2 : wr.alloc (Obj.cells #[.int .i64 x0, .int .i64 x1, .int .i64 x2, .int .i64 x3, .int .i64 x4, .int .i64 x5, .int .i64 x6, .int .i64 x7] 25) = w2 at *
        clear hx0 hx1 hx2 hx3 hx4 hx5 hx6 hx7 p1 p2 d1
        obtain ⟨z0, z1, z2, z3, z4, z5, z6, z7⟩ := BX.eight
        have HX2 := Aside0.mk BX
        have HB2 := Aside0.mk BB
        have HD2 := Aside0.mk BD
        clear BX BB BD hw2 HD HB
        go_upto_region 8 with (go_at_call 8; (with_reducible refine (line_to t1 f1 x0 x1 x2 x3 x4 x5 x6 x7 _ HL.out.1 HL.out.2.1).mono ?_); rintro e w3 ⟨rfl, hB3⟩; have HB3 := Aside0.mk (bthen HB2.out hB3); have HD3 := Aside0.mk (HD2.out.below hB3); clear hB3)
        clear z0 z1 z2 z3 z4 z5 z6 z7 HX2 HB2 HD2
        by_cases hf : f1 = 0
        · subst hf
          have hg := HG.out
          rw [if_pos rfl] at hg
          have HG2 := Aside0.mk hg
          clear hg HG
          go_wp2_with (first
            | (go_at_call 33; have _z := HD4; (with_reducible refine (Bld.feed HD4.out (by have h1 := HA.out; have h2 := HL.out.2.2; have h3 := HN.out; have h4 := HN2.out; simp only [List.length_append, List.length_cons, List.length_nil]; omega) (below_size HB4.out)).mono ?_); rintro e w5 ⟨rfl, hD5, hB5⟩; have HB5 := Aside0.mk (HB4.out.trans hB5); have HD5 := Aside0.mk hD5; clear hB5 hD5)
            | (go_at_call 33; (with_reducible refine (Bld.write HD3.out t1 (by have h1 := HA.out; have h2 := HL.out.2.2; have h3 := HN.out; have h4 := HN2.out; omega) (below_size HB3.out)).mono ?_); rintro e w4 ⟨rfl, hD4, hB4⟩; have HB4 := Aside0.mk (HB3.out.trans hB4); have HD4 := Aside0.mk hD4; clear hB4 hD4))
          obtain ⟨g2, rfl⟩ : ∃ g2, gk = g2 + 1 := ⟨gk - 1, by have := HN2.out; omega⟩
          go_roundg g2
          case measure => omega
          case rel => exact ⟨i + 1, acc ++ t1 ++ [10], by first | rfl | (rw [w64 (by omega) (by have := HN.out; have := HN2.out; omega)]; rfl), by have := HN2.out; omega, ⟨by have h1 := HA.out; have h2 := HL.out.2.2; simp only [List.length_append, List.length_cons, List.length_nil]; omega⟩, HG2, HD5, HB5⟩
        · have qf : (f1 == 0) = false := by simpa using hf
          have hg := HG.out
          rw [if_neg hf] at hg
          obtain ⟨rfl, rfl⟩ := Prod.mk.inj hg
          clear hg hf HG
          go_wp2_with fail
          go_ret2
          exact ⟨rfl, HB3.out⟩
      · have d1 : decide ((i : Int) < (l.length : Int)) = false := decide_eq_false (by omega)
        have d1n : decide (i < l.length) = false := decide_eq_false (by omega)
        have hg := HG.out
        rw [List.drop_eq_nil_of_le (by omega)] at hg
        have hg2 : (if 65536 < acc.length then (([] : List UInt8), (20 : Int)) else (acc, 0)) = (t, g) := hg
        clear hg HG
        clear hi
        by_cases hbig : 65536 < acc.length
        · rw [if_pos hbig] at hg2
          obtain ⟨rfl, rfl⟩ := Prod.mk.inj hg2
          have d2 : decide ((65536 : Int) < (acc.length : Int)) = true := decide_eq_true (by omega)
          have d3 : decide (65536 < acc.length) = true := decide_eq_true hbig
          clear hbig hg2
          go_wp2_with (go_at_call 34; (with_reducible refine (Bld.len HD.out).mono ?_); rintro e w4 ⟨rfl, rfl⟩)
          go_ret2
          exact ⟨rfl, HB.out⟩
        · rw [if_neg hbig] at hg2
          obtain ⟨rfl, rfl⟩ := Prod.mk.inj hg2
          have d2 : decide ((65536 : Int) < (acc.length : Int)) = false := decide_eq_false (by omega)
          have d3 : decide (65536 < acc.length) = false := decide_eq_false hbig
          clear hbig hg2
          go_wp2_with (first
            | (go_at_call 34; (with_reducible refine (Bld.len HD.out).mono ?_); rintro e w4 ⟨rfl, rfl⟩)
            | (go_at_call 35; (with_reducible refine (Bld.str HD.out (below_size HB.out)).mono ?_); rintro e w4 ⟨rfl, hB4⟩))
          go_ret2
          exact ⟨rfl, HB.out.trans hB4⟩
end Go.Proofs.YtdaagoagfenadaaDoor.X
namespace Go.Proofs.YtdaagoagfenadaaDoor.X
open Go.RowKit Go.Shelf Go.Proofs.YtdaagoagfenadaaDoor.YTw Go.Proofs.YtdaagoagfenadaaDoorW.PrintWords Go.Proofs.YtdaagoagfenadaaDoorW.PrintLast Go.Proofs.YtdaagoagfenadaaDoorW.PrintMore
attribute [local go_sem] Oper.semAt_some
set_option linter.unusedVariables false
set_option linter.unusedSimpArgs false
def ofL (l : List Int) : S25 := ⟨l.getD 0 0, l.getD 1 0, l.getD 2 0, ⟨l.getD 3 0, l.getD 4 0, l.getD 5 0, l.getD 6 0, l.getD 7 0⟩⟩
/-- The entry of a line. -/
def entL (x : List UInt8) : S25 := ofL (entT x.dropLast).1
def parseG : List (List UInt8) → List S25 → List S25 × Int
  | [], acc => if 4096 < acc.length then ([], 20) else (acc, 0)
  | x :: r, acc => if x.getLast? = some 10 then (if (entT x.dropLast).2 = 0 then parseG r (acc ++ [entL x]) else ([], (entT x.dropLast).2)) else ([], 4)
/-- The script of a text. -/
def parseTT (s : List UInt8) : List S25 × Int := if 65536 < s.length then ([], 20) else parseG (linesL s) []
theorem lines_count : ∀ s : List UInt8, (linesL s).length ≤ s.length
  | [] => Nat.le_refl _
  | c :: r => by
    have ih := lines_count r
    unfold linesL
    split
    · simp only [List.length_cons]; omega
    · split
      · rename_i f fs e
        rw [e] at ih
        simp only [List.length_cons] at ih ⊢
        omega
      · simp
theorem lines_mem : ∀ (s x : List UInt8), x ∈ linesL s → x.length ≤ s.length
  | [], x, h => by cases h
  | c :: r, x, h => by
    have ih := lines_mem r
    unfold linesL at h
    split at h
    · rcases List.mem_cons.1 h with rfl | h
      · simp
      · have := ih x h
        simp only [List.length_cons]; omega
    · split at h
      · rename_i f fs e
        rcases List.mem_cons.1 h with rfl | h
        · have := ih f (by rw [e]; exact List.mem_cons_self ..)
          simp only [List.length_cons]; omega
        · have := ih x (by rw [e]; exact List.mem_cons_of_mem _ h)
          simp only [List.length_cons]; omega
      · simp only [List.mem_singleton] at h
        subst h
        simp
theorem lines_fn (s : List UInt8) (w : World) : Calls Tryd.prog 36 #[.string (bs s)] w fun e w' => e = .returned (.func (.func 51) #[] #[.pointer (some ⟨w.heap.size, 0, none⟩)]) ∧ w' = w.alloc (.cells #[.string (bs s)] 9) := by
  go_enter Tryd.func36, Tryd.ntmps36
  go_wp2
  go_ret
  exact ⟨rfl, rfl⟩
theorem suffix_ten (x : List UInt8) : Lib.hasSuffix x [10] = decide (x.getLast? = some 10) ∧ (x.getLast? = some 10 → Lib.trimSuffix x [10] = x.dropLast) := by
  have h1 : Lib.hasSuffix x [10] = decide (x.getLast? = some 10) := by
    unfold Lib.hasSuffix
    rcases List.eq_nil_or_concat x with rfl | ⟨y, a, rfl⟩
    · rfl
    · rw [Bool.eq_iff_iff, List.isSuffixOf_iff_suffix, decide_eq_true_eq]
      constructor
      · rintro ⟨z, hz⟩
        rw [← hz]; simp
      · intro h
        have h2 : a = 10 := by simpa using h
        exact ⟨y, by rw [h2]; simp⟩
  refine ⟨h1, fun h => ?_⟩
  unfold Lib.trimSuffix
  rw [h1, decide_eq_true h, if_pos rfl, List.dropLast_eq_take]
  rfl
theorem suffix_calls (x : List UInt8) (w : World) (hx : x.length ≤ 1000000) : Calls Tryd.prog 37 #[.string (bs x), .string ⟨#[10]⟩] w fun e w' => e = .returned (.tuple #[.string (bs (Lib.trimSuffix x [10])), .bool (Lib.hasSuffix x [10])]) ∧ w' = w :=
  Tryd.strings_CutSuffix (bs x) ⟨#[10]⟩ w (by rw [bs_size]; omega)
theorem suffix_to (x y : List UInt8) (b : Bool) (w : World) (hx : x.length ≤ 1000000) (h1 : Lib.trimSuffix x [10] = y) (h2 : Lib.hasSuffix x [10] = b) : Calls Tryd.prog 37 #[.string (bs x), .string ⟨#[10]⟩] w fun e w' => e = .returned (.tuple #[.string (bs y), .bool b]) ∧ w' = w := by
  subst h1; subst h2
  exact suffix_calls x w hx
theorem res_cells {fn : Func} {p u : Tmp} (h : fn.results = #[.cell p 37, .cell u 26]) (tmps : Array Value) (W : World) (g1 g2 : Nat) (v1 v2 : Value) (hp : tmps.getD p undef = .pointer (some ⟨g1, 0, none⟩)) (hq : tmps.getD u undef = .pointer (some ⟨g2, 0, none⟩)) (h1 : W.cell? ⟨g1, 0, none⟩ = some v1) (h2 : W.cell? ⟨g2, 0, none⟩ = some v2) :
    (results fn tmps).run Tryd.prog W = .ok (.tuple #[v1, v2]) W := by
  have hp2 : tmps[p]?.getD undef = .pointer (some ⟨g1, 0, none⟩) := by simpa using hp
  have hq2 : tmps[u]?.getD undef = .pointer (some ⟨g2, 0, none⟩) := by simpa using hq
  simp only [results, h]
  simp [Sem.run_bind, Result.andThen, hp2, hq2, asAddr, go_sem, h1, h2]
def cellsE (x : S25) : List Value := (nums x).map (Value.int .i64)
def rowE (l : List S25) : List Value := l.flatMap cellsE
theorem entT_len (y : List UInt8) : (entT y).1.length = 8 := by
  rcases ent_back y with h | ⟨k, w, n, c, h, h5, _⟩
  · rw [h]; rfl
  · rw [h]; unfold ent8; simp [h5]
theorem entry_to (y : List UInt8) (e0 e1 e2 e3 e4 e5 e6 e7 g : Int) (w : World) (hm : Mx w) (hl : y.length ≤ 2000000) (h : entT y = ([e0, e1, e2, e3, e4, e5, e6, e7], g)) : Calls Tryd.prog 10 #[.string (bs y)] w fun e w' => e = .returned (.tuple #[.agg #[.int .i64 e0, .int .i64 e1, .int .i64 e2, .int .i64 e3, .int .i64 e4, .int .i64 e5, .int .i64 e6, .int .i64 e7], .int .i64 g]) ∧ Below w.heap.size w w' := by
  have := entry_calls y w hm hl
  rw [h] at this
  exact this
theorem cells_new (w : World) (xs : List Value) (t : TypeId) : ∀ j u, xs[j]? = some u → (w.alloc (.cells xs.toArray t)).cell? ((⟨w.heap.size, 0, none⟩ : Addr).add j) = some u := by
  intro j u hj
  have h := blk_cell (blk_new w (Obj.cells xs.toArray t)) j
  have e : ((⟨w.heap.size, 0, none⟩ : Addr).add j) = ⟨w.heap.size, j, none⟩ := by
    by_cases h0 : j = 0
    · subst h0; rfl
    · simp [Addr.add, h0]
  rw [e, h]
  simpa using hj
theorem cells_new1 (w : World) (o : Obj) (xs : List Value) (t : TypeId) : ∀ j u, xs[j]? = some u → ((w.alloc o).alloc (.cells xs.toArray t)).cell? ((⟨w.heap.size + 1, 0, none⟩ : Addr).add j) = some u := by
  have := cells_new (w.alloc o) xs t
  rw [World.size_alloc] at this
  exact this
theorem keeps_below {W W' : World} (h : Below W.heap.size W W') : KeepsOthers W W' := ⟨h.size, fun k o hk ho => (h.block k (Array.getElem?_eq_some_iff.1 hk).1).trans hk⟩
theorem boxed_below {W W' : World} {B : Nat} {t : TypeId} {v : Value} (h : Boxed W B t v) (hb : Below W.heap.size W W') : Boxed W' B t v := (hb.block B h.lt).trans h
theorem row_other {W : World} {n₀ B k : Nat} {t : TypeId} {u v x : Value} {xs : List Value} (h : W.ownsRow n₀ 25 8 v k xs) (hb : Boxed W B t u) (hte : t ≠ 25) : (W.setCell ⟨B, 0, none⟩ x).ownsRow n₀ 25 8 v k xs :=
  h.kept (grownBy_setCell' W B x) (.inr (hb.not_row hte h).symm)
theorem box_other {W : World} {B C : Nat} {t : TypeId} {v x : Value} (h : Boxed W B t v) (hn : B ≠ C) : Boxed (W.setCell ⟨C, 0, none⟩ x) B t v := h.kept (grownBy_setCell' W C x) (fun e => hn (Option.some.inj e))
theorem box_through {w1 W3 w4 : World} {tmp : Obj} {n₀ k B C : Nat} {t : TypeId} {u v x : Value} {xs : List Value} (h : Boxed w1 B t u) (hb : Below w1.heap.size w1 W3) (hrow : W3.ownsRow n₀ 25 8 v k xs) (hte : t ≠ 25) (hg : (W3.alloc tmp).grownBy w4 v.ownBlock) (hn : B ≠ C) : Boxed (w4.setCell ⟨C, 0, none⟩ x) B t u :=
  box_other (((boxed_below h hb).alloc tmp).kept hg (((boxed_below h hb).alloc tmp).not_row hte (hrow.alloc tmp))) hn
/-- What holds between two rounds. -/
def PI (ls : List (List UInt8)) (t : List S25) (f : Int) (w : World) (pre : List (List UInt8)) (W : World) : Prop :=
  ((∀ rest, ls = pre ++ rest → parseG rest (pre.map entL) = (t, f)) ∧ Boxed W w.heap.size 37 (.slice none 0 0) ∧ Boxed W (w.heap.size + 1) 26 (.int .i64 0) ∧ ∃ x, Boxed W (w.heap.size + 3) 9 x) ∧
  (∃ v, Boxed W (w.heap.size + 2) 37 v ∧ W.ownsRow w.heap.size 25 8 v (pre.map entL).length (rowE (pre.map entL)) ∧ True) ∧ Below w.heap.size w W
/-- A round has said 'no more'. -/
def PX (t : List S25) (f : Int) (w : World) (pre : List (List UInt8)) (W : World) : Prop :=
  (t = [] ∧ Boxed W w.heap.size 37 (.slice none 0 0) ∧ Boxed W (w.heap.size + 1) 26 (.int .i64 f)) ∧ Below w.heap.size w W
theorem own_box {β : Type} (B : Nat) (t : TypeId) (v : Value) : Own (fun (_ : β) W => Boxed W B t v) := by
  intro s W W' row h hg hr
  refine h.kept hg (fun e => ?_)
  obtain ⟨o, ho, hc⟩ := hr B e.symm
  rw [show W.heap[B]? = _ from h] at ho
  cases ho
  cases hc
theorem own_const {β : Type} (p : β → Prop) : Own (fun (s : β) (_ : World) => p s) := fun _ _ _ _ h _ _ => h
theorem own_and {β : Type} {I J : β → World → Prop} (h : Own I) (k : Own J) : Own (fun s W => I s W ∧ J s W) := fun s W W' row hs hg hr => ⟨h s W W' row hs.1 hg hr, k s W W' row hs.2 hg hr⟩
theorem own_ex {β α : Type} {I : α → β → World → Prop} (h : ∀ x, Own (I x)) : Own (fun s W => ∃ x, I x s W) := fun s W W' row ⟨x, hs⟩ hg hr => ⟨x, h x s W W' row hs hg hr⟩
theorem pi_own (ls : List (List UInt8)) (t : List S25) (f : Int) (w : World) (B : Nat) (hB : w.heap.size ≤ B) : OwnFrom B (PI ls t f w) :=
  OwnFrom.and (Own.from (own_and (own_const _) (own_and (own_box _ _ _) (own_and (own_box _ _ _) (own_ex fun x => own_box _ _ _)))) _)
    (OwnFrom.and (Own.from (holdsRow_own w.heap.size (w.heap.size + 2) _ _ 8 (fun pre : List (List UInt8) => (pre.map entL).length) (fun pre => rowE (pre.map entL)) (fun _ _ => True)) _) (ownFrom_below (Nat.le_refl _) hB))
theorem px_own (t : List S25) (f : Int) (w : World) (B : Nat) (hB : w.heap.size ≤ B) : OwnFrom B (PX t f w) :=
  OwnFrom.and (Own.from (own_and (own_const fun _ => t = []) (own_and (own_box _ _ _) (own_box _ _ _))) _) (ownFrom_below (Nat.le_refl _) hB)
theorem pi_set (ls : List (List UInt8)) (t : List S25) (f : Int) (w : World) (pre : List (List UInt8)) (V : World) (x : Value) (h : PI ls t f w pre V) : PI ls t f w pre (V.setCell ⟨w.heap.size + 3, 0, none⟩ x) := by
  obtain ⟨⟨h1, h2, h3, y, h4⟩, ⟨v, h5, h6, _⟩, h7⟩ := h
  exact ⟨⟨h1, box_other h2 (by omega), box_other h3 (by omega), x, h4.set x⟩, ⟨v, box_other h5 (by omega), row_other h6 h4 (by decide), trivial⟩, h7.setCell (p := ⟨w.heap.size + 3, 0, none⟩) (by show w.heap.size ≤ w.heap.size + 3; omega) _⟩
theorem pi_drew (ls : List (List UInt8)) (t : List S25) (f : Int) (w : World) (pre : List (List UInt8)) (V : World) (h : PI ls t f w pre V) : PI ls t f w pre V.drew := by
  obtain ⟨⟨h1, h2, h3, y, h4⟩, ⟨v, h5, h6, _⟩, h7⟩ := h
  exact ⟨⟨h1, h2, h3, y, h4⟩, ⟨v, h5, h6, trivial⟩, h7.drew⟩
theorem keeps2 {W : World} {D : Nat} {a b : Addr} {u v : Value} (hK : W.heap[D]? = some (.deferred (some []))) : ((W.setCell a u).setCell b v).heap[D]? = some (.deferred (some [])) := ((KeepsOthers.setCell W a u).trans (KeepsOthers.setCell _ b v)).same D _ hK rfl
theorem box_put {W : World} {B D : Nat} {t : TypeId} {v : Value} {o : Obj} (h : Boxed W B t v) (hn : B ≠ D) : Boxed (W.putObj D o) B t v := (World.putObj_heap_other hn).trans h
theorem reps_row (w : World) (base : Nat) (ok : Nat → Prop) : ∀ l : List S25, Reps (k25.M w base ok) 8 l (rowE l)
  | [] => Reps.none _ _
  | x :: r => by
    have h1 : Reps (k25.M w base ok) 8 ([] ++ [x]) ([] ++ cellsE x) := Reps.snoc (Reps.none _ _) (k25_mkM w base ok x) rfl
    exact Kd.reps_append h1 (reps_row w base ok r)
theorem kd_row {w : World} {n₀ : Nat} {v : Value} (l : List S25) (h : w.ownsRow n₀ 25 8 v l.length (rowE l)) : Kd.R k25 25 w n₀ (fun _ => True) v l := ⟨fun _ _ => trivial, rowE l, h, reps_row w n₀ _ l⟩
set_option maxRecDepth 100000 in
set_option maxHeartbeats 20000000 in
theorem scrparse_walk (s : List UInt8) (t : List S25) (f : Int) (w : World) (hm : Mx w) (h : parseTT s = (t, f)) :
    Calls Tryd.prog 15 #[.string (bs s)] w fun e w' => ∃ v, e = .returned (.tuple #[v, .int .i64 f]) ∧ Kd.R k25 25 w' w.heap.size (fun _ => True) v t ∧ Below w.heap.size w w' := by
  have HM := Aside0.mk hm
  clear hm
  have hsz := bs_size s
  unfold parseTT at h
  by_cases hb : 65536 < s.length
  · rw [if_pos hb] at h
    obtain ⟨rfl, rfl⟩ := Prod.mk.inj h
    clear h
    have c1 : decide ((65536 : Int) < (s.length : Int)) = true := decide_eq_true (by omega)
    have c2 : decide (65536 < s.length) = true := decide_eq_true hb
    clear hb
    go_enter Tryd.func15, Tryd.ntmps15
    have b2 := Boxed.new w 37 (.slice none 0 0)
    have b3 := Boxed.new (w.alloc (Obj.cells #[.slice none 0 0] 37)) 26 (.int .i64 0)
    rw [World.size_alloc] at b3
    replace b2 := b2.alloc (Obj.cells #[.int .i64 0] 26)
    have hB0 := ballo (ballo (Below.refl w.heap.size w) (Obj.cells #[.slice none 0 0] 37)) (Obj.cells #[.int .i64 0] 26)
    go_upto_region 1 with fail
    generalize (w.alloc (Obj.cells #[.slice none 0 0] 37)).alloc (Obj.cells #[.int .i64 0] 26) = W at *
    have hc2 := b2.cell
    have hf2 := b2.frozen
    have hc3 := b3.cell
    have hf3 := b3.frozen
    go_wp2_with fail
    (try simp only [Exit.inBlock, Exit.then])
    refine bodyPost_ret (res_cells rfl _ _ w.heap.size (w.heap.size + 1) _ _ rfl rfl (box_other (b2.set _) (by omega)).cell ((box_other b3 (by omega)).set _).cell) rfl ?_
    exact ⟨_, rfl, Kd.R_nil _ _ _ _ _, (hB0.setCell (p := ⟨w.heap.size, 0, none⟩) (Nat.le_refl _) _).setCell (p := ⟨w.heap.size + 1, 0, none⟩) (by show w.heap.size ≤ w.heap.size + 1; omega) _⟩
  · rw [if_neg hb] at h
    have HS := Aside0.mk hb
    have HG := Aside0.mk h
    have c1 : decide ((65536 : Int) < (s.length : Int)) = false := decide_eq_false (by omega)
    have c2 : decide (65536 < s.length) = false := decide_eq_false hb
    clear hb h
    obtain ⟨i0, hi, hz0, hz1, hz2⟩ := info_parts info25
    refine (callsIn_wide (n := 9)).1 ?_
    refine callsIn_of_wp_marks Tryd.func15 rfl trivial ?_ rfl
    simp only [Tryd.ntmps15, List.size_toArray, List.length_cons, List.length_nil, Nat.reduceAdd, Nat.reduceSub, Array.replicate_succ, Array.replicate_zero, List.push_toArray, List.append_toArray, List.nil_append, List.cons_append]
    gi_wp2_with (refine ⟨trivial, ?_⟩; gi_at_call 36; refine (callsIn_wide.2 (lines_fn s _)).mono ?_; rintro e w' ⟨rfl, rfl⟩)
    simp only [Nat.add_assoc, Nat.reduceAdd]
    have b2 := Boxed.new w 37 (.slice none 0 0)
    have b3 := Boxed.new (w.alloc (Obj.cells #[.slice none 0 0] 37)) 26 (.int .i64 0)
    have b4 := Boxed.new ((w.alloc (Obj.cells #[.slice none 0 0] 37)).alloc (Obj.cells #[.int .i64 0] 26)) 37 (.slice none 0 0)
    have b5 := Boxed.new (((w.alloc (Obj.cells #[.slice none 0 0] 37)).alloc (Obj.cells #[.int .i64 0] 26)).alloc (Obj.cells #[.slice none 0 0] 37)) 9 (.string (bs s))
    have hB0 := ballo (ballo (ballo (ballo (Below.refl w.heap.size w) (Obj.cells #[.slice none 0 0] 37)) (Obj.cells #[.int .i64 0] 26)) (Obj.cells #[.slice none 0 0] 37)) (Obj.cells #[.string (bs s)] 9)
    have hs0 : ((((w.alloc (Obj.cells #[.slice none 0 0] 37)).alloc (Obj.cells #[.int .i64 0] 26)).alloc (Obj.cells #[.slice none 0 0] 37)).alloc (Obj.cells #[.string (bs s)] 9)).heap.size = w.heap.size + 4 := by simp only [World.size_alloc]
    simp only [World.size_alloc, Nat.add_assoc, Nat.reduceAdd] at b3 b4 b5
    replace b2 := ((b2.alloc (Obj.cells #[.int .i64 0] 26)).alloc (Obj.cells #[.slice none 0 0] 37)).alloc (Obj.cells #[.string (bs s)] 9)
    replace b3 := (b3.alloc (Obj.cells #[.slice none 0 0] 37)).alloc (Obj.cells #[.string (bs s)] 9)
    replace b4 := b4.alloc (Obj.cells #[.string (bs s)] 9)
    generalize (((w.alloc (Obj.cells #[.slice none 0 0] 37)).alloc (Obj.cells #[.int .i64 0] 26)).alloc (Obj.cells #[.slice none 0 0] 37)).alloc (Obj.cells #[.string (bs s)] 9) = W0 at *
    have hG0 : ∀ rest, linesL s = [] ++ rest → parseG rest (([] : List (List UInt8)).map entL) = (t, f) := by
      intro rest hr
      have e : rest = linesL s := hr.symm
      rw [e]
      exact HG.out
    have p0 : PI (linesL s) t f w [] W0 := ⟨⟨hG0, b2, b3, _, b5⟩, ⟨_, b4, World.ownsRow_nil _ _ _ _, trivial⟩, hB0⟩
    clear hG0
    refine range_lines (n := 9) (gf := 51) (lb := #[.pointer (some ⟨w.heap.size + 3, 0, none⟩)]) (b := w.heap.size + 3) (ls := linesL s) rfl (by decide) rfl trivial (enters_of Tryd.func51 (by kernel_rfl) rfl) rfl (by rw [hs0]; omega)
      (fun l W hW => lines_iter _ (by decide) l _ s (by have := HS.out; omega) W (boxed_below b5 hW))
      (PI (linesL s) t f w) (PX t f w) (pi_own _ _ _ _ _ (by rw [hs0]; omega)) (px_own _ _ _ _ (by rw [hs0]; omega)) (pi_set _ _ _ _) (pi_drew _ _ _ _) p0
      (fun x => { tmps := #[.string (bs s), undef, .pointer (some ⟨w.heap.size, 0, none⟩), .pointer (some ⟨w.heap.size + 1, 0, none⟩), .pointer (some ⟨w.heap.size + 2, 0, none⟩), .string (bs x), undef, undef, undef, undef, .string (bs s), .int .i64 s.length, .bool false, .string (bs s), .func (.func 51) #[] #[.pointer (some ⟨w.heap.size + 3, 0, none⟩)], .string (bs x), undef, undef, undef, undef, undef, undef, undef, undef, undef, undef, undef, undef, undef, undef, undef, undef, undef, undef, undef, undef, undef, undef, undef], defers := [] }) ?assign ?body ?done ?stop
    case assign =>
      intro l x W K hK
      gi_wp2
      exact hK
    case body =>
      rintro l pre x W hPI ⟨rest, hrest⟩
      obtain ⟨⟨h1, h2, h3, yb, h4⟩, ⟨v, h5, h6, _⟩, h7⟩ := hPI
      obtain ⟨ao, nv, cv, rfl⟩ : ∃ ao n' cap, v = .slice ao n' cap := by
        rcases h6.2 with ⟨hv, _⟩ | ⟨g, cap, cur, hv, _⟩
        · exact ⟨_, _, _, hv⟩
        · exact ⟨_, _, _, hv⟩
      have hg := h1 (x :: rest) (by rw [← hrest]; simp)
      have hxm : x ∈ linesL s := by rw [← hrest]; simp
      have hxl : x.length ≤ 65536 := by have := lines_mem s x hxm; have := HS.out; omega
      have hpl : pre.length ≤ 65536 := by
        have e1 := congrArg List.length hrest
        simp only [List.length_append, List.length_cons, List.length_nil] at e1
        have := lines_count s
        have := HS.out
        omega
      clear h1 hxm
      have HR := Aside0.mk hrest
      obtain ⟨k1, k2⟩ := suffix_ten x
      clear hrest p0 b2 b3 b4 b5 hB0
      have hc2 := h2.cell
      have hf2 := h2.frozen
      have hc3 := h3.cell
      have hf3 := h3.frozen
      have H2 := Aside0.mk h2
      have H3 := Aside0.mk h3
      have H4 := Aside0.mk h4
      have H5 := Aside0.mk h5
      have H6 := Aside0.mk h6
      have H7 := Aside0.mk h7
      have HX := Aside0.mk hxl
      have HP := Aside0.mk hpl
      clear h2 h3 h4 h5 h6 h7 hxl hpl
      by_cases hlast : x.getLast? = some 10
      · obtain ⟨y, hy⟩ : ∃ y, x.dropLast = y := ⟨_, rfl⟩
        obtain ⟨L, g, hL⟩ : ∃ L g, entT y = (L, g) := ⟨_, _, rfl⟩
        obtain ⟨e0, e1, e2, e3, e4, e5, e6, e7, rfl⟩ := list8 L (by have := entT_len y; rw [hL] at this; exact this)
        have hyl : y.length ≤ 2000000 := by rw [← hy, List.length_dropLast]; have := HX.out; omega
        have hg2 : (if g = 0 then parseG rest (pre.map entL ++ [entL x]) else ([], g)) = (t, f) := by
          rw [← hg]
          show _ = (if x.getLast? = some 10 then (if (entT x.dropLast).2 = 0 then parseG rest (pre.map entL ++ [entL x]) else ([], (entT x.dropLast).2)) else ([], 4))
          rw [if_pos hlast, hy, hL]
        have hex : entL x = ⟨e0, e1, e2, ⟨e3, e4, e5, e6, e7⟩⟩ := by
          unfold entL
          rw [hy, hL]
          rfl
        have HK := Aside0.mk (And.intro ((k2 hlast).trans hy) (k1.trans (decide_eq_true hlast)))
        have HE := Aside0.mk (And.intro hL hyl)
        have HG2 := Aside0.mk (And.intro hg2 hex)
        clear hg hg2 k1 k2 hlast hy hL hyl hex hc2 hf2 hc3 hf3
        by_cases hg0 : g = 0
        · subst hg0
          have hg3 := HG2.out.1
          rw [if_pos rfl, HG2.out.2] at hg3
          gi_wp2_with (first
            | (refine ⟨trivial, ?_⟩; gi_at_call 37; refine (CallsIn.inRound l (callsIn_wide.2 (suffix_to x y true _ (by have := HX.out; omega) HK.out.1 HK.out.2))).mono ?_; rintro e w1 ⟨rfl, rfl⟩)
            | (refine ⟨trivial, ?_⟩; gi_at_call 10; refine (CallsIn.inRound l (callsIn_wide.2 (entry_to y e0 e1 e2 e3 e4 e5 e6 e7 0 _ (HM.out.below H7.out) HE.out.2 HE.out.1))).mono ?_; rintro e w2 ⟨rfl, hB2⟩; have HB2 := Aside0.mk (ballo hB2 (Obj.cells #[.int .i64 e0, .int .i64 e1, .int .i64 e2, .int .i64 e3, .int .i64 e4, .int .i64 e5, .int .i64 e6, .int .i64 e7] 25)); have H52 := Aside0.mk (boxed_below H5.out HB2.out); have H62 := Aside0.mk (pw_own_below H6.out HB2.out); have hc4 := H52.out.cell; obtain ⟨z0, z1, z2, z3, z4, z5, z6, z7⟩ := (EntAt.eight (blk_new w2 _ : EntAt (w2.alloc (Obj.cells #[.int .i64 e0, .int .i64 e1, .int .i64 e2, .int .i64 e3, .int .i64 e4, .int .i64 e5, .int .i64 e6, .int .i64 e7] 25)) w2.heap.size [e0, e1, e2, e3, e4, e5, e6, e7])))
            | (gi_at_builtin; refine wpListIn_append_own _ rfl _ _ 37 rfl w.heap.size 25 i0 (.agg #[.int .i64 0, .int .i64 0, .int .i64 0, .int .i64 0, .int .i64 0, .int .i64 0, .int .i64 0, .int .i64 0]) 8 64 Tryd.underlying37 hi hz0 hz1 hz2 rfl (by decide) _ _ _ rfl (H62.out.alloc _) ⟨w2.heap.size + 1, 0, none⟩ 1 1 [.int .i64 e0, .int .i64 e1, .int .i64 e2, .int .i64 e3, .int .i64 e4, .int .i64 e5, .int .i64 e6, .int .i64 e7] rfl rfl (cells_new1 w2 _ [.int .i64 e0, .int .i64 e1, .int .i64 e2, .int .i64 e3, .int .i64 e4, .int .i64 e5, .int .i64 e6, .int .i64 e7] _) (by simp [Value.oneCell']) (by have := HP.out; unfold maxLen; rw [List.length_map]; omega) (by have := HP.out; rw [List.length_map]; omega) (by have h8 := H7.out.size; have h9 := HB2.out.size; simp only [World.size_alloc] at h9 ⊢; omega) ?_; intro v' w4 hown' hgrow _; obtain ⟨g', cap', rfl⟩ := ownsRow_succ hown'; have HAP := H52.out.appended (by decide) H62.out (by have h8 := H7.out.size; have h9 := HB2.out.size; omega) (by omega) hown' hgrow; obtain ⟨hv1, hv2, hr2, hk2, hb2⟩ := HAP; have hcc := hv1.cell; have hff := hv1.frozen; have HV2 := Aside0.mk hv2; have HR2 := Aside0.mk hr2; have HK2 := Aside0.mk hk2; have HBB := Aside0.mk hb2; have HGR := Aside0.mk hgrow; clear hv1 hv2 hr2 hk2 hb2 hgrow hown'))
          have hk5 := HK2.out
          have hv5 := HV2.out
          have hb5 := HBB.out
          have hr5 := HR2.out
          rw [List.length_map] at hk5 hv5 hb5 hr5
          clear HK2 HV2 HBB HR2
          have r1 : rowE ((pre ++ [x]).map entL) = rowE (pre.map entL) ++ [.int .i64 e0, .int .i64 e1, .int .i64 e2, .int .i64 e3, .int .i64 e4, .int .i64 e5, .int .i64 e6, .int .i64 e7] := by
            rw [List.map_append, List.map_cons, List.map_nil, HG2.out.2]
            unfold rowE
            rw [List.flatMap_append]
            rfl
          have r2 : ((pre ++ [x]).map entL).length = pre.length + 1 := by simp
          have q2 := box_through (C := w.heap.size + 2) (x := .slice (some ⟨g', 0, none⟩) (pre.length + 1) cap') H2.out HB2.out H62.out (by decide) HGR.out (by omega)
          have q3 := box_through (C := w.heap.size + 2) (x := .slice (some ⟨g', 0, none⟩) (pre.length + 1) cap') H3.out HB2.out H62.out (by decide) HGR.out (by omega)
          have q4 := box_through (C := w.heap.size + 2) (x := .slice (some ⟨g', 0, none⟩) (pre.length + 1) cap') H4.out HB2.out H62.out (by decide) HGR.out (by omega)
          refine ⟨(keeps_below HB2.out).trans hk5, Eq.trans q4 (Eq.symm H4.out), ⟨⟨?_, q2, q3, yb, q4⟩, ⟨_, hv5, ?_, trivial⟩, (bthen H7.out HB2.out).trans hb5⟩⟩
          · intro rest' hr'
            have e : rest' = rest := by
              have := HR.out.trans hr'
              exact (List.append_cancel_left this).symm
            rw [e, List.map_append, List.map_cons, List.map_nil, HG2.out.2]
            exact hg3
          · rw [r1, r2]
            exact hr5
        · have hg3 := HG2.out.1
          rw [if_neg hg0] at hg3
          obtain ⟨rfl, rfl⟩ := Prod.mk.inj hg3
          have qg : (g == 0) = false := by simpa using hg0
          clear hg3 hg0
          gi_wp2_with (first
            | (refine ⟨trivial, ?_⟩; gi_at_call 37; refine (CallsIn.inRound l (callsIn_wide.2 (suffix_to x y true _ (by have := HX.out; omega) HK.out.1 HK.out.2))).mono ?_; rintro e w1 ⟨rfl, rfl⟩)
            | (refine ⟨trivial, ?_⟩; gi_at_call 10; refine (CallsIn.inRound l (callsIn_wide.2 (entry_to y e0 e1 e2 e3 e4 e5 e6 e7 g _ (HM.out.below H7.out) HE.out.2 HE.out.1))).mono ?_; rintro e w2 ⟨rfl, hB2⟩; have HB2 := Aside0.mk (ballo hB2 (Obj.cells #[.int .i64 e0, .int .i64 e1, .int .i64 e2, .int .i64 e3, .int .i64 e4, .int .i64 e5, .int .i64 e6, .int .i64 e7] 25)); have H22 := Aside0.mk (boxed_below H2.out HB2.out); have H32 := Aside0.mk (boxed_below H3.out HB2.out); have hc2 := H22.out.cell; have hf2 := H22.out.frozen; have hc3 := H32.out.cell; have hf3 := H32.out.frozen))
          exact ⟨(keeps_below HB2.out).trans ((KeepsOthers.setCell _ _ _).trans (KeepsOthers.setCell _ _ _)), ⟨rfl, box_other (H22.out.set _) (by omega), (box_other H32.out (by omega)).set _⟩, ((bthen H7.out HB2.out).setCell (p := ⟨w.heap.size, 0, none⟩) (Nat.le_refl _) _).setCell (p := ⟨w.heap.size + 1, 0, none⟩) (by show w.heap.size ≤ w.heap.size + 1; omega) _⟩
      · have hg2 : (([] : List S25), (4 : Int)) = (t, f) := by
          rw [← hg]
          show _ = (if x.getLast? = some 10 then _ else _)
          rw [if_neg hlast]
        obtain ⟨rfl, rfl⟩ := Prod.mk.inj hg2
        obtain ⟨y, hy⟩ : ∃ y, Lib.trimSuffix x [10] = y := ⟨_, rfl⟩
        have HK := Aside0.mk (And.intro hy (k1.trans (decide_eq_false hlast)))
        clear hg hg2 k1 k2 hlast hy
        gi_wp2_with (refine ⟨trivial, ?_⟩; gi_at_call 37; refine (CallsIn.inRound l (callsIn_wide.2 (suffix_to x y false _ (by have := HX.out; omega) HK.out.1 HK.out.2))).mono ?_; rintro e w1 ⟨rfl, rfl⟩)
        exact ⟨(KeepsOthers.setCell _ _ _).trans (KeepsOthers.setCell _ _ _), ⟨rfl, box_other (H2.out.set _) (by omega), (box_other H3.out (by omega)).set _⟩, (H7.out.setCell (p := ⟨w.heap.size, 0, none⟩) (Nat.le_refl _) _).setCell (p := ⟨w.heap.size + 1, 0, none⟩) (by show w.heap.size ≤ w.heap.size + 1; omega) _⟩
    case done =>
      rintro D W hD hPI hK
      obtain ⟨⟨h1, h2, h3, yb, h4⟩, ⟨v, h5, h6, _⟩, h7⟩ := hPI
      obtain ⟨ao, nv, cv, rfl⟩ : ∃ ao n' cap, v = .slice ao n' cap := by
        rcases h6.2 with ⟨hv, _⟩ | ⟨g, cap, cur, hv, _⟩
        · exact ⟨_, _, _, hv⟩
        · exact ⟨_, _, _, hv⟩
      have hnv : nv = (linesL s).length := by
        rcases h6.2 with ⟨hv, hk⟩ | ⟨g, cap, cur, hv, _⟩
        · rw [List.length_map] at hk
          injection hv with _ e2 _
          omega
        · injection hv with _ e2 _
          rw [List.length_map] at e2
          exact e2
      subst hnv
      have hg := h1 [] (by simp)
      have hg2 : (if 4096 < ((linesL s).map entL).length then ([], 20) else ((linesL s).map entL, 0)) = (t, f) := hg
      clear h1 hg
      have hc2 := h2.cell
      have hf2 := h2.frozen
      have hc3 := h3.cell
      have hf3 := h3.frozen
      have hc4 := h5.cell
      have HD : w.heap.size + 4 ≤ D := by rw [← hs0]; exact hD
      rw [List.length_map] at hg2
      by_cases hbig : 4096 < (linesL s).length
      · rw [if_pos hbig] at hg2
        obtain ⟨rfl, rfl⟩ := Prod.mk.inj hg2
        have d1 : decide ((4096 : Int) < ((linesL s).length : Int)) = true := decide_eq_true (by omega)
        have d2 : decide (4096 < (linesL s).length) = true := decide_eq_true hbig
        clear hbig hg2
        gi_wp2
        refine ⟨by simp, .inl ⟨_, _, rfl, run_takeDeferred (keeps2 hK), ?_⟩⟩
        exact ⟨_, res_cells rfl _ _ w.heap.size (w.heap.size + 1) _ _ rfl rfl (box_put (box_other (h2.set _) (by omega)) (by omega)).cell (box_put ((box_other h3 (by omega)).set _) (by omega)).cell, _, rfl, Kd.R_nil _ _ _ _ _, ((h7.setCell (p := ⟨w.heap.size, 0, none⟩) (Nat.le_refl _) _).setCell (p := ⟨w.heap.size + 1, 0, none⟩) (by show w.heap.size ≤ w.heap.size + 1; omega) _).trans (belowK_b (w := w) (Nat.le_refl _) _ D _ _ (by omega) (keeps2 hK) rfl rfl)⟩
      · rw [if_neg hbig] at hg2
        obtain ⟨rfl, rfl⟩ := Prod.mk.inj hg2
        have d1 : decide ((4096 : Int) < ((linesL s).length : Int)) = false := decide_eq_false (by omega)
        have d2 : decide (4096 < (linesL s).length) = false := decide_eq_false hbig
        clear hbig hg2
        gi_wp2
        refine ⟨by simp, .inl ⟨_, _, rfl, run_takeDeferred (keeps2 hK), ?_⟩⟩
        exact ⟨_, res_cells rfl _ _ w.heap.size (w.heap.size + 1) _ _ rfl rfl (box_put (box_other (h2.set _) (by omega)) (by omega)).cell (box_put ((box_other h3 (by omega)).set _) (by omega)).cell, _, rfl, kd_row _ (ownsRow_putObj (row_other (row_other h6 h2 (by decide)) (box_other h3 (by omega)) (by decide)) _ (keeps2 hK) rfl), ((h7.setCell (p := ⟨w.heap.size, 0, none⟩) (Nat.le_refl _) _).setCell (p := ⟨w.heap.size + 1, 0, none⟩) (by show w.heap.size ≤ w.heap.size + 1; omega) _).trans (belowK_b (w := w) (Nat.le_refl _) _ D _ _ (by omega) (keeps2 hK) rfl rfl)⟩
    case stop =>
      rintro D pre W hD hpre ⟨⟨rfl, h2, h3⟩, h7⟩ hK
      have HD : w.heap.size + 4 ≤ D := by rw [← hs0]; exact hD
      gi_wp2
      refine ⟨by simp, .inl ⟨_, _, rfl, run_takeDeferred hK, ?_⟩⟩
      exact ⟨_, res_cells rfl _ _ w.heap.size (w.heap.size + 1) _ _ rfl rfl (box_put h2 (by omega)).cell (box_put h3 (by omega)).cell, _, rfl, Kd.R_nil _ _ _ _ _, h7.trans (belowK_b (w := w) (Nat.le_refl _) _ D _ _ (by omega) hK rfl rfl)⟩
end Go.Proofs.YtdaagoagfenadaaDoor.X
namespace Go.Proofs.YtdaagoagfenadaaDoor.X
open Go.RowKit Go.Proofs.YtdaagoagfenadaaDoor.YTw Go.Proofs.YtdaagoagfenadaaDoorW.PrintWords Go.Proofs.YtdaagoagfenadaaDoorW.PrintLast Go.Proofs.YtdaagoagfenadaaDoorW.PrintMore
set_option linter.unusedVariables false
set_option linter.unusedSimpArgs false
theorem bs_data (a : ByteArray) : bs a.data.toList = a := by
  apply ByteArray.ext
  simp [bs]
def t9 (r : List Int × Int) : Int × Int × Int × Int × Int × Int × Int × Int × Int := (r.1.getD 0 0, r.1.getD 1 0, r.1.getD 2 0, r.1.getD 3 0, r.1.getD 4 0, r.1.getD 5 0, r.1.getD 6 0, r.1.getD 7 0, r.2)
theorem t9_eq {l : List UInt8} {r1 r2 r3 r4 r5 r6 r7 r8 r9 : Int} (h : t9 (entT l) = (r1, r2, r3, r4, r5, r6, r7, r8, r9)) : entT l = ([r1, r2, r3, r4, r5, r6, r7, r8], r9) := by
  obtain ⟨L, g, hL⟩ : ∃ L g, entT l = (L, g) := ⟨_, _, rfl⟩
  obtain ⟨e0, e1, e2, e3, e4, e5, e6, e7, rfl⟩ := list8 L (by have := entT_len l; rw [hL] at this; exact this)
  rw [hL] at h ⊢
  simp only [t9, List.getD, List.getElem?_cons_zero, List.getElem?_cons_succ, Option.getD_some, Prod.mk.injEq] at h
  obtain ⟨rfl, rfl, rfl, rfl, rfl, rfl, rfl, rfl, rfl⟩ := h
  rfl
def script_Entry.f (a0 : ByteArray) : Option (Int × Int × Int × Int × Int × Int × Int × Int × Int) := if a0.size ≤ 2000000 then some (t9 (entT a0.data.toList)) else none
theorem script_Entry.calls (a0 : ByteArray) (r1 r2 r3 r4 r5 r6 r7 r8 r9 : Int) (w : World) (h : script_Entry.f a0 = some (r1, r2, r3, r4, r5, r6, r7, r8, r9)) (hm : Mx w) :
    Calls Tryd.prog 10 #[.string a0] w fun e w' => e = .returned (.tuple #[.agg #[.int .i64 r1, .int .i64 r2, .int .i64 r3, .int .i64 r4, .int .i64 r5, .int .i64 r6, .int .i64 r7, .int .i64 r8], .int .i64 r9]) ∧ Below w.heap.size w w' := by
  unfold script_Entry.f at h
  split at h
  · rename_i hc
    have e := t9_eq (Option.some.inj h)
    have h2 := entry_calls a0.data.toList w hm (by rw [← bs_size, bs_data]; exact hc)
    rw [e, bs_data] at h2
    exact h2
  · cases h

def script_Print.f (l : List S25) : Option (ByteArray × Int) := if (l.all fun x => (nums x).all in64B) = true then some (bs (printT l).1, (printT l).2) else none
theorem script_Print.calls (A0 : Option Addr) (c0 : Nat) (l0 : List S25) (r1 : ByteArray) (r2 : Int) (w : World) (hr0 : Kd.C k25 w A0 l0.length l0) (hc0 : l0.length ≤ c0) (h : script_Print.f l0 = some (r1, r2)) :
    Calls Tryd.prog 13 #[.slice A0 l0.length c0] w fun e w' => e = .returned (.tuple #[.string r1, .int .i64 r2]) ∧ Below w.heap.size w w' := by
  unfold script_Print.f at h
  split at h
  · rename_i hc
    obtain ⟨rfl, rfl⟩ := Prod.mk.inj (Option.some.inj h)
    exact print_walk l0 A0 c0 _ _ w hr0 hc0 (fun x hx => in64B_of (List.all_eq_true.1 hc x hx)) rfl
  · cases h
def script_Parse.f (a0 : ByteArray) : Option (List S25 × Int) := some (parseTT a0.data.toList)
theorem script_Parse.calls (a0 : ByteArray) (r1 : List S25) (r2 : Int) (w : World) (h : script_Parse.f a0 = some (r1, r2)) (hm : Mx w) :
    Calls Tryd.prog 15 #[.string a0] w fun e w' => ∃ v, e = .returned (.tuple #[v, .int .i64 r2]) ∧ Kd.R k25 25 w' w.heap.size (fun _ => True) v r1 ∧ Below w.heap.size w w' := by
  have := scrparse_walk a0.data.toList r1 r2 w hm (Option.some.inj h)
  rw [bs_data] at this
  exact this
end Go.Proofs.YtdaagoagfenadaaDoor.X
namespace Go.Proofs.YtdaagoagfenadaaDoor.X
open Go.RowKit Go.Proofs.YtdaagoagfenadaaDoor.YTw
set_option linter.unusedVariables false
set_option linter.unusedSimpArgs false
theorem jns_cons10 (sp : UInt8) (w : List UInt8) : ∀ r : List (List UInt8), jns sp (w :: r) = w ++ r.flatMap (sp :: ·)
  | [] => by simp [jns]
  | v :: r => by
    have := jns_cons10 sp v r
    unfold jns
    rw [this]
    simp
theorem num_no10 (n : Int) : ∀ c ∈ numL n, c ≠ 10 := by
  intro c hc e
  subst e
  rcases numL_chars n 10 hc with h | h
  · exact absurd h (by decide)
  · exact absurd h (by decide)
theorem wd_no10 : ∀ k, k < 12 → ∀ c ∈ wd k, c ≠ 10 := by decide +kernel
theorem jn_no10 (ws : List (List UInt8)) (h : ∀ w ∈ ws, ∀ c ∈ w, c ≠ 10) : ∀ c ∈ jn ws, c ≠ 10 := by
  intro c hc
  have hc2 : c ∈ jns 32 ws := hc
  clear hc
  cases ws with
  | nil => cases hc2
  | cons w r =>
    rw [jns_cons10] at hc2
    rcases List.mem_append.1 hc2 with hc | hc
    · exact h w (List.mem_cons_self ..) c hc
    · obtain ⟨v, hv, hc⟩ := List.mem_flatMap.1 hc
      rcases List.mem_cons.1 hc with rfl | hc
      · decide
      · exact h v (List.mem_cons_of_mem _ hv) c hc
theorem call_no10 (c : List Int) : ∀ x ∈ (callT c).1, x ≠ 10 := by
  by_cases h : c.getD 0 0 < 1 ∨ 12 < c.getD 0 0
  · have e : callT c = ([], 2) := if_pos h
    rw [e]
    intro x hx
    cases hx
  · obtain ⟨k, hk⟩ : ∃ k : Nat, c.getD 0 0 - 1 = (k : Int) := ⟨(c.getD 0 0 - 1).toNat, by omega⟩
    by_cases hp : plainC c (pt k) = c
    · rw [callT_eq c k hk (by omega) (by omega) hp]
      refine jn_no10 _ ?_
      intro w hw
      rcases List.mem_cons.1 hw with rfl | hw
      · exact wd_no10 k (by omega)
      · obtain ⟨p, _, rfl⟩ := List.mem_map.1 hw
        exact num_no10 _
    · rw [callT_ne c k hk (by omega) (by omega) hp]
      intro x hx
      cases hx
theorem line_no10 (k w n : Int) (c : List Int) : ∀ x ∈ (lineT k w n c).1, x ≠ 10 := by
  have hs : ∀ c ∈ stepW, c ≠ 10 := by decide
  have hm : ∀ c ∈ moveW, c ≠ 10 := by decide
  have hcw : ∀ c ∈ callW, c ≠ 10 := by decide
  unfold lineT
  split
  · refine jn_no10 _ (fun v hv => ?_)
    simp only [List.mem_cons, List.not_mem_nil, or_false] at hv
    rcases hv with rfl | rfl | rfl
    · exact hs
    · exact num_no10 _
    · exact num_no10 _
  · split
    · refine jn_no10 _ (fun v hv => ?_)
      simp only [List.mem_cons, List.not_mem_nil, or_false] at hv
      rcases hv with rfl | rfl | rfl
      · exact hm
      · exact num_no10 _
      · exact num_no10 _
    · split
      · refine jn_no10 _ (fun v hv => ?_)
        simp only [List.mem_cons, List.not_mem_nil, or_false] at hv
        rcases hv with rfl | rfl | rfl
        · exact hcw
        · exact num_no10 _
        · exact call_no10 _
      · intro x hx
        cases hx
theorem lines_app : ∀ (x r : List UInt8), (∀ c ∈ x, c ≠ 10) → linesL (x ++ 10 :: r) = (x ++ [10]) :: linesL r
  | [], r, _ => by
    show linesL (10 :: r) = _
    conv => lhs; unfold linesL
    rw [if_pos rfl]
    rfl
  | c :: x, r, h => by
    show linesL (c :: (x ++ 10 :: r)) = _
    conv => lhs; unfold linesL
    rw [if_neg (h c (List.mem_cons_self ..)), lines_app x r (fun d hd => h d (List.mem_cons_of_mem _ hd))]
    rfl
theorem lines_none10 : ∀ (x : List UInt8), x ≠ [] → (∀ c ∈ x, c ≠ 10) → linesL x = [x]
  | [], h, _ => absurd rfl h
  | [c], _, h => by
    unfold linesL
    rw [if_neg (h c (List.mem_cons_self ..))]
    rfl
  | c :: d :: x, _, h => by
    conv => lhs; unfold linesL
    rw [if_neg (h c (List.mem_cons_self ..)), lines_none10 (d :: x) (by simp) (fun e he => h e (List.mem_cons_of_mem _ he))]
theorem lines_flat : ∀ s : List UInt8, (linesL s).flatten = s
  | [] => rfl
  | c :: r => by
    have ih := lines_flat r
    unfold linesL
    by_cases hc : c = 10
    · rw [if_pos hc, List.flatten_cons, ih, hc]
      rfl
    · rw [if_neg hc]
      split
      · rename_i f fs e
        rw [e, List.flatten_cons] at ih
        rw [List.flatten_cons, List.cons_append, ih]
      · rename_i e
        rw [e] at ih
        have : r = [] := ih.symm
        rw [this]
        rfl
theorem lines_c10 (r : List UInt8) : linesL (10 :: r) = [10] :: linesL r := by
  conv => lhs; unfold linesL
  rw [if_pos rfl]
theorem lines_cn (c : UInt8) (r : List UInt8) (hc : c ≠ 10) (f : List UInt8) (fs : List (List UInt8)) (e : linesL r = f :: fs) : linesL (c :: r) = (c :: f) :: fs := by
  conv => lhs; unfold linesL
  rw [if_neg hc, e]
/-- A text that ends with a feed, and another one behind it. -/
theorem lines_two : ∀ (s r : List UInt8), s.getLast? = some 10 → linesL (s ++ r) = linesL s ++ linesL r
  | [], r, h => by cases h
  | [c], r, h => by
    have hc : c = 10 := by simpa using h
    subst hc
    show linesL (10 :: r) = linesL [10] ++ linesL r
    conv => lhs; unfold linesL
    rw [if_pos rfl]
    rfl
  | c :: d :: s, r, h => by
    have h2 : (d :: s).getLast? = some 10 := by rw [List.getLast?_cons_cons] at h; exact h
    have ih := lines_two (d :: s) r h2
    show linesL (c :: ((d :: s) ++ r)) = linesL (c :: d :: s) ++ linesL r
    by_cases hc : c = 10
    · subst hc
      rw [lines_c10, lines_c10, ih]
      rfl
    · cases e : linesL (d :: s) with
      | nil => have := lines_flat (d :: s); rw [e] at this; cases this
      | cons f fs =>
        rw [e] at ih
        rw [lines_cn c _ hc f (fs ++ linesL r) ih, lines_cn c _ hc f fs e]
        rfl
/-- A line with its feed. -/
def feedL (x : S25) : List UInt8 := (lineS x).1 ++ [10]
def okS (x : S25) : Prop := (lineS x).2 = 0 ∧ ∀ y ∈ nums x, In64 y
theorem entL_feed (x : S25) (h : okS x) : entL (feedL x) = x ∧ (entT (lineS x).1).2 = 0 := by
  obtain ⟨x0, x1, x2, ⟨x3, x4, x5, x6, x7⟩⟩ := x
  obtain ⟨h1, h2⟩ := h
  have hn : ∀ y ∈ [x0, x1, x2, x3, x4, x5, x6, x7], In64 y := h2
  have h1' : (lineT x0 x1 x2 [x3, x4, x5, x6, x7]).2 = 0 := h1
  have hb := line_back x0 x1 x2 [x3, x4, x5, x6, x7] (hn x1 (by simp)) (hn x2 (by simp)) (fun y hy => hn y (by simp at hy ⊢; rcases hy with h | h | h | h | h <;> simp [h]))
  rcases hb with hb | ⟨_, hb⟩
  · rw [hb] at h1'; cases h1'
  · have e : entT (lineS ⟨x0, x1, x2, ⟨x3, x4, x5, x6, x7⟩⟩).1 = (ent8 x0 x1 x2 [x3, x4, x5, x6, x7], 0) := hb
    refine ⟨?_, by rw [e]⟩
    unfold entL feedL
    rw [List.dropLast_concat, e]
    rfl
theorem feed_no10 (x : S25) : ∀ c ∈ (lineS x).1, c ≠ 10 := line_no10 _ _ _ _
theorem lines_feed : ∀ l : List S25, linesL (l.flatMap feedL) = l.map feedL
  | [] => rfl
  | x :: r => by
    rw [List.flatMap_cons, List.map_cons, ← lines_feed r]
    have : feedL x ++ r.flatMap feedL = (lineS x).1 ++ 10 :: r.flatMap feedL := by unfold feedL; simp
    rw [this, lines_app _ _ (feed_no10 x)]
    rfl
theorem parseG_feed : ∀ (l acc : List S25), (∀ x ∈ l, okS x) → parseG (l.map feedL) acc = if 4096 < (acc ++ l).length then ([], 20) else (acc ++ l, 0)
  | [], acc, _ => by rw [List.append_nil]; rfl
  | x :: r, acc, h => by
    obtain ⟨e1, e2⟩ := entL_feed x (h x (List.mem_cons_self ..))
    rw [List.map_cons]
    unfold parseG
    have e3 : (feedL x).getLast? = some 10 := by unfold feedL; simp
    have e4 : (feedL x).dropLast = (lineS x).1 := by unfold feedL; rw [List.dropLast_concat]
    rw [if_pos e3, e4, if_pos e2, e1, parseG_feed r (acc ++ [x]) (fun y hy => h y (List.mem_cons_of_mem _ hy))]
    simp only [List.append_assoc, List.singleton_append]
theorem printG_ok : ∀ (l : List S25) (acc t : List UInt8), printG l acc = (t, 0) → (∀ x ∈ l, (lineS x).2 = 0) ∧ t = acc ++ l.flatMap feedL ∧ t.length ≤ 65536
  | [], acc, t, h => by
    unfold printG at h
    split at h
    · cases h
    · obtain ⟨rfl, _⟩ := Prod.mk.inj h
      exact ⟨fun x hx => (by cases hx), by simp, by omega⟩
  | x :: r, acc, t, h => by
    unfold printG at h
    split at h
    · rename_i hx
      obtain ⟨h1, h2, h3⟩ := printG_ok r _ t h
      refine ⟨fun y hy => ?_, ?_, h3⟩
      · rcases List.mem_cons.1 hy with rfl | hy
        · exact hx
        · exact h1 y hy
      · rw [h2, List.flatMap_cons]
        simp [feedL]
    · rename_i hx
      exact absurd (Prod.mk.inj h).2 hx
theorem printG_run : ∀ (l : List S25) (acc : List UInt8), (∀ x ∈ l, (lineS x).2 = 0) → printG l acc = if 65536 < (acc ++ l.flatMap feedL).length then ([], 20) else (acc ++ l.flatMap feedL, 0)
  | [], acc, _ => by
    rw [List.flatMap_nil, List.append_nil]
    rfl
  | x :: r, acc, h => by
    unfold printG
    rw [if_pos (h x (List.mem_cons_self ..)), printG_run r _ (fun y hy => h y (List.mem_cons_of_mem _ hy)), List.flatMap_cons]
    simp only [feedL, List.append_assoc]
theorem printG_fail : ∀ (l : List S25) (acc : List UInt8), (printG l acc).2 ≠ 0 → (printG l acc).1 = []
  | [], acc, h => by
    unfold printG at h ⊢
    split at h
    · rename_i hx
      rw [if_pos hx]
    · exact absurd rfl h
  | x :: r, acc, h => by
    unfold printG at h ⊢
    split at h
    · rename_i hx
      rw [if_pos hx]
      exact printG_fail r _ h
    · rename_i hx
      rw [if_neg hx]
theorem print_fail (l : List S25) (h : (printT l).2 ≠ 0) : (printT l).1 = [] := by
  unfold printT at h ⊢
  split at h
  · rename_i hx
    rw [if_pos hx]
  · rename_i hx
    rw [if_neg hx]
    exact printG_fail l [] h
theorem print_ok (l : List S25) (t : List UInt8) (h : printT l = (t, 0)) : (∀ x ∈ l, (lineS x).2 = 0) ∧ t = l.flatMap feedL ∧ t.length ≤ 65536 ∧ l.length ≤ 4096 := by
  unfold printT at h
  split at h
  · cases h
  · obtain ⟨h1, h2, h3⟩ := printG_ok l [] t h
    exact ⟨h1, h2, h3, by omega⟩
theorem print_run (l : List S25) (h : ∀ x ∈ l, (lineS x).2 = 0) (hl : l.length ≤ 4096) (ht : (l.flatMap feedL).length ≤ 65536) : printT l = (l.flatMap feedL, 0) := by
  unfold printT
  rw [if_neg (by omega), printG_run l [] h]
  show (if 65536 < (l.flatMap feedL).length then _ else _) = _
  rw [if_neg (by omega)]
  rfl
/-- What is printed is parsed as the same. -/
theorem parse_print (l : List S25) (t : List UInt8) (hI : ∀ x ∈ l, ∀ y ∈ nums x, In64 y) (h : printT l = (t, 0)) : parseTT t = (l, 0) := by
  obtain ⟨h1, h2, h3, h4⟩ := print_ok l t h
  unfold parseTT
  rw [if_neg (by omega), h2, lines_feed, parseG_feed l [] (fun x hx => ⟨h1 x hx, hI x hx⟩)]
  show (if 4096 < l.length then _ else _) = _
  rw [if_neg (by omega)]
  rfl
theorem parseG_ok : ∀ (ls : List (List UInt8)) (acc m : List S25), parseG ls acc = (m, 0) → (∀ x ∈ ls, x.getLast? = some 10 ∧ (entT x.dropLast).2 = 0) ∧ m = acc ++ ls.map entL ∧ m.length ≤ 4096
  | [], acc, m, h => by
    unfold parseG at h
    split at h
    · cases h
    · obtain ⟨rfl, _⟩ := Prod.mk.inj h
      exact ⟨fun x hx => (by cases hx), by simp, by omega⟩
  | x :: r, acc, m, h => by
    unfold parseG at h
    split at h
    · rename_i hx
      split at h
      · rename_i hy
        obtain ⟨h1, h2, h3⟩ := parseG_ok r _ m h
        refine ⟨fun y hy' => ?_, ?_, h3⟩
        · rcases List.mem_cons.1 hy' with rfl | hy'
          · exact ⟨hx, hy⟩
          · exact h1 y hy'
        · rw [h2]
          simp
      · rename_i hy
        exact absurd (Prod.mk.inj h).2 hy
    · cases h
theorem parseG_fail : ∀ (ls : List (List UInt8)) (acc : List S25), (parseG ls acc).2 ≠ 0 → (parseG ls acc).1 = []
  | [], acc, h => by
    unfold parseG at h ⊢
    split at h
    · rename_i hx
      rw [if_pos hx]
    · exact absurd rfl h
  | x :: r, acc, h => by
    unfold parseG at h ⊢
    split at h
    · rename_i hx
      rw [if_pos hx]
      split at h
      · rename_i hy
        rw [if_pos hy]
        exact parseG_fail r _ h
      · rename_i hy
        rw [if_neg hy]
    · rename_i hx
      rw [if_neg hx]
theorem parse_fail (s : List UInt8) (h : (parseTT s).2 ≠ 0) : (parseTT s).1 = [] := by
  unfold parseTT at h ⊢
  split at h
  · rename_i hx
    rw [if_pos hx]
  · rename_i hx
    rw [if_neg hx]
    exact parseG_fail _ [] h
theorem line_ent (y : List UInt8) (h : (entT y).2 = 0) : lineS (ofL (entT y).1) = (y, 0) ∧ ∀ z ∈ nums (ofL (entT y).1), In64 z := by
  rcases ent_back y with h2 | ⟨k, w, n, c, h2, h5, hk, hw, hn, hc, h6⟩
  · rw [h2] at h; cases h
  · obtain ⟨c0, c1, c2, c3, c4, rfl⟩ := list5 c h5
    rw [h2]
    refine ⟨h6, ?_⟩
    intro z hz
    have hz2 : z ∈ [k, w, n, c0, c1, c2, c3, c4] := hz
    simp only [List.mem_cons, List.not_mem_nil, or_false] at hz2
    rcases hz2 with rfl | rfl | rfl | hz2
    · exact hk
    · exact hw
    · exact hn
    · refine hc z ?_
      simp only [List.mem_cons, List.not_mem_nil, or_false]
      exact hz2
/-- What is parsed is printed so. -/
theorem print_parse (s : List UInt8) (m : List S25) (h : parseTT s = (m, 0)) : printT m = (s, 0) ∧ ∀ x ∈ m, ∀ y ∈ nums x, In64 y := by
  unfold parseTT at h
  split at h
  · cases h
  · rename_i hs
    obtain ⟨h1, h2, h3⟩ := parseG_ok _ [] m h
    have h4 : m = (linesL s).map entL := h2
    have key : ∀ x ∈ linesL s, (lineS (entL x)).2 = 0 ∧ feedL (entL x) = x ∧ ∀ y ∈ nums (entL x), In64 y := by
      intro x hx
      obtain ⟨g1, g2⟩ := h1 x hx
      obtain ⟨g3, g4⟩ := line_ent x.dropLast g2
      have g5 : lineS (entL x) = (x.dropLast, 0) := g3
      refine ⟨by rw [g5], ?_, g4⟩
      unfold feedL
      rw [g5]
      show x.dropLast ++ [10] = x
      have hne : x ≠ [] := by rintro rfl; cases g1
      have := List.dropLast_concat_getLast hne
      rw [List.getLast?_eq_some_getLast hne] at g1
      rw [← Option.some.inj g1]
      exact this
    have hf : m.flatMap feedL = s := by
      rw [h4]
      have : ((linesL s).map entL).flatMap feedL = (linesL s).flatten := by
        rw [List.flatMap_map]
        have e : ∀ ls : List (List UInt8), (∀ x ∈ ls, feedL (entL x) = x) → ls.flatMap (fun x => feedL (entL x)) = ls.flatten := by
          intro ls
          induction ls with
          | nil => intro _; rfl
          | cons a r ih =>
            intro hh
            rw [List.flatMap_cons, List.flatten_cons, hh a (List.mem_cons_self ..), ih (fun x hx => hh x (List.mem_cons_of_mem _ hx))]
        exact e _ (fun x hx => (key x hx).2.1)
      rw [this, lines_flat]
    refine ⟨?_, ?_⟩
    · have := print_run m (fun x hx => by
        rw [h4] at hx
        obtain ⟨y, hy, rfl⟩ := List.mem_map.1 hx
        exact (key y hy).1) h3 (by rw [hf]; omega)
      rw [hf] at this
      exact this
    · intro x hx
      rw [h4] at hx
      obtain ⟨y, hy, rfl⟩ := List.mem_map.1 hx
      exact (key y hy).2.2
/-- A script's text that ends within a line is none. -/
theorem parse_cut (l : List S25) (t : List UInt8) (n : Nat) (hI : ∀ x ∈ l, ∀ y ∈ nums x, In64 y) (h : printT l = (t, 0)) : (parseTT (t.take n)).2 = 0 ↔ (t.take n = [] ∨ (t.take n).getLast? = some 10) := by
  obtain ⟨h1, h2, h3, h4⟩ := print_ok l t h
  have hlen : (t.take n).length ≤ 65536 := by rw [List.length_take]; omega
  constructor
  · intro hp
    by_cases hne : t.take n = []
    · exact .inl hne
    · right
      obtain ⟨m, hm⟩ : ∃ m, parseTT (t.take n) = (m, 0) := ⟨_, Prod.ext rfl hp⟩
      unfold parseTT at hm
      rw [if_neg (by omega)] at hm
      obtain ⟨g1, _, _⟩ := parseG_ok _ [] m hm
      have hfl := lines_flat (t.take n)
      rcases List.eq_nil_or_concat (linesL (t.take n)) with e | ⟨y, a, e⟩
      · rw [e] at hfl
        exact absurd hfl.symm hne
      · rw [List.concat_eq_append] at e
        have ga := (g1 a (by rw [e]; simp)).1
        rw [← hfl, e, List.flatten_append, List.flatten_singleton, List.getLast?_append, ga]
        rfl
  · rintro (he | he)
    · rw [he]; decide
    · have e := lines_two (t.take n) (t.drop n) he
      have e0 : linesL t = l.map feedL := by rw [h2, lines_feed]
      rw [List.take_append_drop, e0] at e
      unfold parseTT
      rw [if_neg (by omega)]
      -- the lines are the first entries' ones
      have e2 : linesL (t.take n) = (l.take (linesL (t.take n)).length).map feedL := by
        rw [List.map_take, e, List.take_left' rfl]
      rw [e2, parseG_feed _ [] (fun x hx => ⟨h1 x (List.mem_of_mem_take hx), hI x (List.mem_of_mem_take hx)⟩)]
      show (if 4096 < (l.take _).length then _ else _ : List S25 × Int).2 = 0
      rw [if_neg (by rw [List.length_take]; omega)]
/-- Two scripts, one behind the other. -/
theorem print_app (a b : List S25) (x y : List UInt8) (ha : printT a = (x, 0)) (hb : printT b = (y, 0)) (hl : a.length + b.length ≤ 4096) (ht : x.length + y.length ≤ 65536) : printT (a ++ b) = (x ++ y, 0) := by
  obtain ⟨a1, a2, a3, a4⟩ := print_ok a x ha
  obtain ⟨b1, b2, b3, b4⟩ := print_ok b y hb
  have e : (a ++ b).flatMap feedL = x ++ y := by rw [List.flatMap_append, ← a2, ← b2]
  have := print_run (a ++ b) (fun z hz => (List.mem_append.1 hz).elim (a1 z) (b1 z)) (by rw [List.length_append]; exact hl) (by rw [e, List.length_append]; exact ht)
  rw [e] at this
  exact this
end Go.Proofs.YtdaagoagfenadaaDoor.X

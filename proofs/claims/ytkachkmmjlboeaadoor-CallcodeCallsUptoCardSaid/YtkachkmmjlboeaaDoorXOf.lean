/- part.of; a call in memory; the plain text of a call. Conditions: none. -/
import Derived.Test.YtkachkmmjlboeaaDoorXForms
namespace Go.Proofs.YtkachkmmjlboeaaDoor.X
open Go.RowKit Go.Proofs.YtkachkmmjlboeaaDoor.YAll Go.Proofs.YtkachkmmjlboeaaDoorW.PrintWords Go.Proofs.YtkachkmmjlboeaaDoorW.PrintLast Go.Proofs.YtkachkmmjlboeaaDoorW.PrintMore
set_option linter.unusedVariables false
set_option linter.unusedSimpArgs false

theorem of_calls (p : Nat) (hp : p < 4) (b : Nat) (w : World) : Calls Tryd.prog 27 #[.int .i64 (p : Int), .pointer (some ⟨b, 0, none⟩)] w fun e w' => e = .returned (.pointer (some ⟨b, p + 1, none⟩)) ∧ w' = w := by
  have h : p = 0 ∨ p = 1 ∨ p = 2 ∨ p = 3 := by omega
  rcases h with rfl | rfl | rfl | rfl
  all_goals
    go_enter Tryd.func27, Tryd.ntmps27
    go_wp2
    go_ret
    exact ⟨rfl, rfl⟩
/-- At block b lies a call: kind, Addr, Size, Align, Value. -/
def CallAt (w : World) (b : Nat) (c : List Int) : Prop := w.heap[b]? = some (.cells (c.map (Value.int .i64)).toArray 32)
theorem CallAt.cell {w : World} {b : Nat} {c : List Int} (h : CallAt w b c) (i : Nat) (hi : i < c.length) : w.cell? ⟨b, i, none⟩ = some (.int .i64 (c.getD i 0)) := by
  rw [blk_cell h]
  simp [hi]
theorem CallAt.frozen {w : World} {b : Nat} {c : List Int} (h : CallAt w b c) (i : Nat) : w.frozen? ⟨b, i, none⟩ = false := blk_frozen h i
theorem CallAt.set {w : World} {b : Nat} {c : List Int} (h : CallAt w b c) (i : Nat) (x : Int) : CallAt (w.setCell ⟨b, i, none⟩ (.int .i64 x)) b (c.set i x) := by
  have h2 := blk_set h i (.int .i64 x)
  unfold CallAt
  rw [h2]
  simp [List.map_set]
theorem CallAt.far {w : World} {b g : Nat} {c : List Int} (h : CallAt w b c) (i : Nat) (v : Value) (hn : b ≠ g) : CallAt (w.setCell ⟨g, i, none⟩ v) b c := blk_far h hn v
theorem CallAt.below {w w' : World} {b : Nat} {c : List Int} (h : CallAt w b c) (hb : Below w.heap.size w w') : CallAt w' b c := blk_below h hb
theorem CallAt.alloc {w : World} {b : Nat} {c : List Int} (h : CallAt w b c) (o : Obj) : CallAt (w.alloc o) b c := blk_alloc h o
theorem PtsAt.below {w w' : World} {A : Option Addr} {ps : List Nat} (h : PtsAt w A ps) (hb : Below w.heap.size w w') : PtsAt w' A ps := fun hn => by
  obtain ⟨b, rfl, h2⟩ := h hn
  exact ⟨b, rfl, blk_below h2 hb⟩
theorem PtsAt.set {w : World} {A : Option Addr} {ps : List Nat} {g : Nat} {t : TypeId} {cs : Array Value} (h : PtsAt w A ps) (hg : w.heap[g]? = some (.cells cs t)) (ht : t ≠ 62) (i : Nat) (u : Value) : PtsAt (w.setCell ⟨g, i, none⟩ u) A ps := fun hn => by
  obtain ⟨b, rfl, h2⟩ := h hn
  refine ⟨b, rfl, blk_far h2 ?_ u⟩
  rintro rfl
  rw [hg] at h2
  injection h2 with h2
  injection h2 with _ h2
  exact ht h2
theorem PtsAt.grown {w w' : World} {A : Option Addr} {ps : List Nat} {v : Value} (h : PtsAt w A ps) (hg : w.grownBy w' v.ownBlock) (ht : ∀ k, v.ownBlock = some k → ∃ cells, w.heap[k]? = some (.cells cells 9 (0, 0))) : PtsAt w' A ps := fun hn => by
  obtain ⟨b, rfl, h2⟩ := h hn
  refine ⟨b, rfl, blk_grown h2 hg ?_⟩
  intro e
  obtain ⟨cells, h3⟩ := ht b e.symm
  rw [h3] at h2
  injection h2 with h2
  injection h2 with _ h2
  cases h2
theorem pt_lt (k : Nat) : ∀ p ∈ pt k, p < 4 := by
  by_cases h : k < 12
  · have h2 : ∀ k < 12, ∀ p ∈ pt k, p < 4 := by decide
    exact h2 k h
  · have e : pt k = [] := by unfold pt; rw [List.getD_eq_getElem?_getD, List.getElem?_eq_none (by show 12 ≤ k; omega)]; rfl
    rw [e]; simp
/-! ### a call's text -/
def jns (sp : UInt8) : List (List UInt8) → List UInt8
  | [] => []
  | [w] => w
  | w :: v :: r => w ++ sp :: jns sp (v :: r)
abbrev jn := jns 32
def plainC (c : List Int) (ps : List Nat) : List Int := ps.foldl (fun q p => q.set (p + 1) (c.getD (p + 1) 0)) [c.getD 0 0, 0, 0, 0, 0]
def wordsC (c : List Int) (ps : List Nat) : List (List UInt8) := ps.map fun p => numL (c.getD (p + 1) 0)
theorem list5 (l : List Int) (h : l.length = 5) : ∃ a b c d e, l = [a, b, c, d, e] := by
  match l, h with
  | [a, b, c, d, e], _ => exact ⟨a, b, c, d, e, rfl⟩
theorem CallAt.five {w : World} {b : Nat} {y0 y1 y2 y3 y4 : Int} (h : CallAt w b [y0, y1, y2, y3, y4]) : w.cell? ⟨b, 0, none⟩ = some (.int .i64 y0) ∧ w.cell? ⟨b, 1, none⟩ = some (.int .i64 y1) ∧ w.cell? ⟨b, 2, none⟩ = some (.int .i64 y2) ∧ w.cell? ⟨b, 3, none⟩ = some (.int .i64 y3) ∧ w.cell? ⟨b, 4, none⟩ = some (.int .i64 y4) := ⟨blk_cell h 0, blk_cell h 1, blk_cell h 2, blk_cell h 3, blk_cell h 4⟩
theorem jns_len (sp : UInt8) (M : Nat) : ∀ ls : List (List UInt8), (∀ w ∈ ls, w.length ≤ M) → (jns sp ls).length ≤ ls.length * (M + 1)
  | [], _ => by simp [jns]
  | [w], h => by have := h w (by simp); simp [jns]; omega
  | w :: v :: r, h => by
    have h1 := h w (by simp)
    have h2 := jns_len sp M (v :: r) (fun x hx => h x (by simp [hx]))
    unfold jns
    rw [List.length_append, List.length_cons, List.length_cons, Nat.add_mul]
    omega
theorem wd_len (k : Nat) : (wd k).length ≤ 7 := by
  by_cases h : k < 12
  · have h2 : ∀ k < 12, (wd k).length ≤ 7 := by decide
    exact h2 k h
  · have e : wd k = [] := by unfold wd; rw [List.getD_eq_getElem?_getD, List.getElem?_eq_none (by show 12 ≤ k; omega)]; rfl
    rw [e]; simp
theorem pt_len (k : Nat) : (pt k).length ≤ 2 := by
  by_cases h : k < 12
  · have h2 : ∀ k < 12, (pt k).length ≤ 2 := by decide
    exact h2 k h
  · have e : pt k = [] := by unfold pt; rw [List.getD_eq_getElem?_getD, List.getElem?_eq_none (by show 12 ≤ k; omega)]; rfl
    rw [e]; simp
theorem plainC_len (c : List Int) (ps : List Nat) : (plainC c ps).length = 5 := by
  unfold plainC
  have h : ∀ (ps : List Nat) (q : List Int), q.length = 5 → (ps.foldl (fun q p => q.set (p + 1) (c.getD (p + 1) 0)) q).length = 5 := by
    intro ps
    induction ps with
    | nil => intro q hq; exact hq
    | cons p ps ih => intro q hq; exact ih _ (by rw [List.length_set]; exact hq)
  exact h ps _ rfl
theorem take_next {α : Type} (l : List α) (i : Nat) (h : i < l.length) : l.take (i + 1) = l.take i ++ [l[i]] := by rw [List.take_add_one, List.getElem?_eq_getElem h]; rfl
theorem plainC_next (c : List Int) (ps : List Nat) (i : Nat) (h : i < ps.length) : plainC c (ps.take (i + 1)) = (plainC c (ps.take i)).set (ps[i] + 1) (c.getD (ps[i] + 1) 0) := by
  rw [take_next ps i h]
  unfold plainC
  rw [List.foldl_append]
  rfl
theorem wordsC_next (c : List Int) (ps : List Nat) (i : Nat) (h : i < ps.length) : wordsC c (ps.take (i + 1)) = wordsC c (ps.take i) ++ [numL (c.getD (ps[i] + 1) 0)] := by
  rw [take_next ps i h]
  unfold wordsC
  rw [List.map_append]
  rfl
def callT (c : List Int) : List UInt8 × Int :=
  if c.getD 0 0 < 1 ∨ 12 < c.getD 0 0 then ([], 2)
  else if plainC c (pt (c.getD 0 0 - 1).toNat) = c then (jn (wd (c.getD 0 0 - 1).toNat :: wordsC c (pt (c.getD 0 0 - 1).toNat)), 0) else ([], 2)
theorem jns_join (sp : UInt8) : ∀ l : List (List UInt8), Lib.join l [sp] = jns sp l
  | [] => rfl
  | [w] => Lib.join_one w [sp]
  | w :: v :: r => by
    have := jns_join sp (v :: r)
    rw [Lib.join_cons] at this ⊢
    unfold jns
    rw [← this]
    simp [Lib.joinTail]
theorem index_forms {w : World} {vs : Array Value} (h : FormsV w vs) (k : Nat) (hk : k < 12) : ∃ A, PtsAt w A (pt k) ∧ ∀ w', (Instr.index 60 (.agg vs) (.int .i64 (k : Int))).run Tryd.prog w' = .ok (.agg #[.string (bs (wd k)), .slice A (pt k).length (pt k).length]) w' := by
  obtain ⟨hs, h⟩ := h
  obtain ⟨A, h1, h2, h3⟩ := h k hk
  refine ⟨A, h3, fun w' => ?_⟩
  unfold Instr.index
  have hz : ∀ v, (sizeOf 59).run Tryd.prog v = .ok 2 v := by intro v; go_simp
  have ha : ∀ v, (isAgg 59).run Tryd.prog v = .ok true v := by intro v; go_simp
  have he : vs.extract (k * 2) (k * 2 + 2) = #[.string (bs (wd k)), .slice A (pt k).length (pt k).length] := by
    apply Array.ext'
    rw [Array.toList_extract]
    rw [← Array.getElem?_toList] at h1 h2
    have hl : vs.toList.length = 24 := by simp [hs]
    rw [List.extract_eq_take_drop]
    rw [show k * 2 + 2 - k * 2 = 2 by omega]
    rw [show k * 2 = 2 * k by omega, List.drop_eq_getElem_cons (by omega), List.drop_eq_getElem_cons (by omega)]
    rw [List.getElem?_eq_getElem (by omega)] at h1 h2
    rw [Option.some.inj h1, Option.some.inj h2]
    rfl
  simp only [asIntOf, Sem.run_bind, Sem.run_pure, Result.andThen_ok, run_underlying Tryd.underlying60]
  rw [if_pos (by omega)]
  simp only [part, Sem.run_bind, Sem.run_pure, Result.andThen_ok, hz, ha, Int.toNat_natCast, if_true, he]
theorem callT_ne (c : List Int) (k : Nat) (h : c.getD 0 0 - 1 = (k : Int)) (h1 : 1 ≤ c.getD 0 0) (h2 : c.getD 0 0 ≤ 12) (hn : plainC c (pt k) ≠ c) : callT c = ([], 2) := by
  unfold callT
  rw [if_neg (by omega), h, Int.toNat_natCast, if_neg hn]
theorem callT_eq (c : List Int) (k : Nat) (h : c.getD 0 0 - 1 = (k : Int)) (h1 : 1 ≤ c.getD 0 0) (h2 : c.getD 0 0 ≤ 12) (hn : plainC c (pt k) = c) : callT c = (jn (wd k :: wordsC c (pt k)), 0) := by
  unfold callT
  rw [if_neg (by omega), h, Int.toNat_natCast, if_pos hn]
theorem words_len (c : List Int) (k : Nat) (hc : ∀ x ∈ c, In64 x) : (jn (wd k :: wordsC c (pt k))).length ≤ 63 := by
  have h := jns_len 32 20 (wd k :: wordsC c (pt k)) (fun w hw => by
    rcases List.mem_cons.1 hw with rfl | hw
    · have := wd_len k; omega
    · obtain ⟨p, hp, rfl⟩ := List.mem_map.1 hw
      apply numL_len
      rw [List.getD_eq_getElem?_getD]
      cases e : c[p + 1]? with
      | none => exact ⟨by decide, by decide⟩
      | some x => exact hc x (List.mem_of_getElem? e))
  have h2 := pt_len k
  have h3 : (wordsC c (pt k)).length = (pt k).length := List.length_map _
  rw [List.length_cons, h3] at h
  have : ((pt k).length + 1) * (20 + 1) ≤ 63 := by omega
  exact Nat.le_trans h this
theorem getD_in (c : List Int) (hc : ∀ x ∈ c, In64 x) (i : Nat) : In64 (c.getD i 0) := by
  rw [List.getD_eq_getElem?_getD]
  cases e : c[i]? with
  | none => exact ⟨by decide, by decide⟩
  | some x => exact hc x (List.mem_of_getElem? e)
end Go.Proofs.YtkachkmmjlboeaaDoor.X

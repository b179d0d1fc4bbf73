/- The next weave: lanes.Next, walked by hand over the library's contracts of slices.Clone and slices.Sort. Conditions: none. -/
import Derived.Test.YtpmkkohnpfpifaaXRank
import Derived.Test.YtpmkkohnpfpifaaShelf
import Derived.Lib.SortBridge
namespace Go.Proofs.Ytpmkkohnpfpifaa.X
open Go.RowKit Go.Proofs.YtpmkkohnpfpifaaW.PrintWords Go.Proofs.YtpmkkohnpfpifaaW.PrintLast Go.Proofs.YtpmkkohnpfpifaaW.PrintMore
open Go.Sort (Holds grow putRow)
set_option linter.unusedVariables false
set_option linter.unusedSimpArgs false

theorem sorted_form : ∀ (m : List Int), okB m = true → m.Pairwise (fun x y => x ≤ y) → m = List.replicate (zs m) 0 ++ List.replicate (os m) 1
  | [], _, _ => rfl
  | x :: m, h, hp => by
    obtain ⟨hx, hm⟩ := (okB_cons x m).1 h
    obtain ⟨h1, h2⟩ := List.pairwise_cons.1 hp
    have ih := sorted_form m hm h2
    rcases hx with rfl | rfl
    · rw [zs0, os0, List.replicate_succ, List.cons_append, ← ih]
    · have hz : zs m = 0 := by
        unfold zs
        rw [List.count_eq_zero]
        intro hh
        have := h1 0 hh
        omega
      rw [zs1, os1, hz]
      rw [hz] at ih
      simp only [List.replicate_zero, List.nil_append] at ih ⊢
      rw [List.replicate_succ, ← ih]
theorem sort_form (l : List Int) (h : okB l = true) : (l.mergeSort fun x y => decide (x ≤ y)) = List.replicate (zs l) 0 ++ List.replicate (os l) 1 := by
  have hp := List.mergeSort_perm l (fun x y => decide (x ≤ y))
  have hs : (l.mergeSort fun x y => decide (x ≤ y)).Pairwise (fun x y => x ≤ y) := by
    have := List.pairwise_mergeSort (le := fun (x y : Int) => decide (x ≤ y)) (by intro a b c; simp; omega) (by intro a b; simp; omega) l
    simpa using this
  have hz : zs (l.mergeSort fun x y => decide (x ≤ y)) = zs l := hp.count_eq 0
  have ho : os (l.mergeSort fun x y => decide (x ≤ y)) = os l := hp.count_eq 1
  have hk : okB (l.mergeSort fun x y => decide (x ≤ y)) = true := by
    unfold okB at h ⊢
    rw [List.all_eq_true] at h ⊢
    intro x hx
    exact h x (hp.mem_iff.1 hx)
  have := sorted_form _ hk hs
  rw [hz, ho] at this
  exact this
theorem next_up (m : List Int) : ∀ (p : Nat) (l : List Int), p ≤ l.length → nextW (l.drop p) = some m → nextW l = some (l.take p ++ m)
  | 0, l, _, h => by simpa using h
  | p + 1, [], h, _ => absurd h (by simp)
  | p + 1, x :: l, h, hn => by
    have := next_up m p l (by simpa using h) (by simpa using hn)
    simp [nextW, this]
theorem next_hit (l : List Int) (h : okB l = true) (p : Nat) (hp : p + 2 ≤ l.length) (hn : nextW (l.drop (p + 1)) = none) (h0 : rd l (p : Int) = 0) (h1 : rd l ((p + 1 : Nat) : Int) = 1) :
    nextW l = some (l.take p ++ 1 :: 0 :: ((l.drop (p + 2)).mergeSort fun x y => decide (x ≤ y))) := by
  have hk : okB (l.drop (p + 2)) = true := by
    unfold okB at h ⊢
    rw [List.all_eq_true] at h ⊢
    intro x hx
    exact h x (List.mem_of_mem_drop hx)
  refine next_up _ p l (by omega) ?_
  have d1 := drop_rd l (p + 1) (by omega)
  rw [h1] at d1
  rw [drop_rd l p (by omega), h0]
  simp only [nextW]
  rw [hn]
  simp only []
  rw [d1, os1, zs1, if_pos ⟨trivial, by omega⟩, sort_form _ hk, Nat.add_sub_cancel, List.replicate_succ, List.cons_append]
theorem next_miss (l : List Int) (h : okB l = true) (p : Nat) (hp : p + 2 ≤ l.length) (hn : nextW (l.drop (p + 1)) = none) (hh : ¬ (rd l (p : Int) = 0 ∧ rd l ((p + 1 : Nat) : Int) = 1)) : nextW (l.drop p) = none := by
  have hk : okB (l.drop (p + 1)) = true := by
    unfold okB at h ⊢
    rw [List.all_eq_true] at h ⊢
    intro x hx
    exact h x (List.mem_of_mem_drop hx)
  rw [drop_rd l p (by omega)]
  simp only [nextW]
  rw [hn]
  simp only []
  rw [if_neg]
  rintro ⟨e0, e1⟩
  rw [drop_rd l (p + 1) (by omega)] at e1 hn hk
  obtain ⟨hx, hk⟩ := (okB_cons _ _).1 hk
  rcases hx with hx | hx
  · rw [hx, os0] at e1
    rw [hx] at hn
    simp only [nextW] at hn
    cases ht : nextW (l.drop (p + 1 + 1)) with
    | some m => rw [ht] at hn; cases hn
    | none => rw [ht] at hn; simp only [] at hn; rw [if_pos ⟨trivial, e1⟩] at hn; cases hn
  · exact hh ⟨e0, hx⟩

theorem spot_none {w : World} {a : Addr} {u : Value} (h : w.cell? a = some u) : a.spot = none := by
  unfold World.cell? at h
  split at h
  · cases hs : a.spot with
    | none => rfl
    | some q => simp [hs] at h
  · simp at h

def setL {α : Type} : List α → Nat → List α → List α
  | xs, _, [] => xs
  | xs, o, v :: vs => setL (xs.set o v) (o + 1) vs
theorem setL_end {α : Type} : ∀ (vs xs : List α) (o : Nat), o + vs.length = xs.length → setL xs o vs = xs.take o ++ vs
  | [], xs, o, h => by
    simp only [setL, List.append_nil]
    rw [List.take_of_length_le (by simp at h; omega)]
  | v :: vs, xs, o, h => by
    simp only [setL]
    rw [setL_end vs (xs.set o v) (o + 1) (by simp at h ⊢; omega)]
    rw [List.take_add_one, List.take_set_of_le (Nat.le_refl _)]
    simp only [List.length_cons] at h
    simp [show o < xs.length by omega]

theorem own_setCells {base g cap n : Nat} {e : TypeId} : ∀ (vs xs : List Value) (w : World) (o : Nat), w.ownsRow base e 1 (.slice (some ⟨g, 0, none⟩) n cap) n xs → (w.setCells g o vs).ownsRow base e 1 (.slice (some ⟨g, 0, none⟩) n cap) n (setL xs o vs)
  | [], xs, w, o, h => by simpa [World.setCells, setL] using h
  | v :: vs, xs, w, o, h => by
    have h2 := own_setCells vs (xs.set o v) (w.setCell ⟨g, o, none⟩ v) (o + 1) (h.stored o v).1
    simpa [World.setCells, setL] using h2
theorem own_grow {base : Nat} {e : TypeId} {size n : Nat} {v : Value} {xs : List Value} {w : World} (h : w.ownsRow base e size v n xs) (os : Array Obj) : (grow w os).ownsRow base e size v n xs := by
  refine ⟨h.1, ?_⟩
  rcases h.2 with hh | ⟨g, cap, cur, hv, hb, hg, h1, h2, h3, h4⟩
  · exact .inl hh
  · refine .inr ⟨g, cap, cur, hv, hb, ?_, h1, h2, h3, h4⟩
    have hlt : g < w.heap.size := by
      rcases Nat.lt_or_ge g w.heap.size with hh | hh
      · exact hh
      · rw [Array.getElem?_eq_none hh] at hg; cases hg
    simp only [grow]
    rw [Array.getElem?_append_left hlt]
    exact hg
theorem below_grow {B : Nat} {a w : World} (h : Below B a w) (hB : B ≤ w.heap.size) (os : Array Obj) : Below B a (grow w os) := by
  refine ⟨h.os, h.tape, h.output, ?_, fun k hk => ?_⟩
  · have := h.size; simp [grow]; omega
  · simp only [grow]
    rw [Array.getElem?_append_left (by omega)]
    exact h.block k hk
theorem below_setCells {B g : Nat} {a : World} (hg : B ≤ g) : ∀ (vs : List Value) (w : World) (o : Nat), Below B a w → Below B a (w.setCells g o vs)
  | [], w, o, h => by simpa [World.setCells] using h
  | v :: vs, w, o, h => by
    have := below_setCells hg vs (w.setCell ⟨g, o, none⟩ v) (o + 1) (h.setCell hg v)
    simpa [World.setCells] using this

theorem own_some {base e g n cap : Nat} {w : World} {xs : List Value} (h : w.ownsRow base e 1 (.slice (some ⟨g, 0, none⟩) n cap) n xs) (j : Nat) (hj : j < n) : ∃ u, w.cell? ⟨g, j, none⟩ = some u := by
  have h2 := h.cellAt j (by omega)
  have h3 := h.1
  rw [List.getElem?_eq_getElem (by omega)] at h2
  exact ⟨_, h2⟩
theorem set2_take (l : List Int) (p : Nat) (h : p + 2 ≤ l.length) : ((l.set p 1).set (p + 1) 0).take (p + 2) = l.take p ++ [1, 0] := by
  apply List.ext_getElem
  · simp; omega
  · intro j h1 h2
    simp at h1 h2
    rw [List.getElem_take, List.getElem_set]
    by_cases e : p + 1 = j
    · subst e; rw [if_pos rfl, List.getElem_append_right (by simp; omega)]; simp [show min p l.length = p by omega]
    · rw [if_neg e, List.getElem_set]
      by_cases e2 : p = j
      · subst e2; rw [if_pos rfl, List.getElem_append_right (by simp; omega)]; simp [show min p l.length = p by omega]
      · rw [if_neg e2, List.getElem_append_left (by simp; omega), List.getElem_take]
theorem set2_drop (l : List Int) (p : Nat) : ((l.set p 1).set (p + 1) 0).drop (p + 2) = l.drop (p + 2) := by
  rw [List.drop_set_of_lt (by omega), List.drop_set_of_lt (by omega)]

abbrev srt (l : List Int) : List Int := l.mergeSort fun x y => decide (x ≤ y)
theorem sort_own {base g k n cap c2 : Nat} {xs : List Int} {w : World} (hown : w.ownsRow base 3 1 (.slice (some ⟨g, 0, none⟩) n cap) n (xs.map (Value.int .i64))) (hx : xs.length = n) (hk : k ≤ n) (hn : n < 4611686018427387904) (hcap : n ≤ cap) :
    Calls Try.prog 24 #[.slice (if cap = k then some ⟨g, 0, none⟩ else some ⟨g, k, none⟩) (n - k) c2] w fun e w' => e = .returned (.tuple #[]) ∧ w'.ownsRow base 3 1 (.slice (some ⟨g, 0, none⟩) n cap) n ((xs.take k ++ srt (xs.drop k)).map (Value.int .i64)) ∧ (∀ B a, Below B a w → B ≤ g → B ≤ w.heap.size → Below B a w') := by
  by_cases h0 : n - k = 0
  · rw [h0]
    refine (Try.slices_Sort_int_none _ _ w).mono ?_
    rintro e w' ⟨rfl, rfl⟩
    refine ⟨rfl, ?_, fun B a h _ _ => h⟩
    rw [List.take_of_length_le (by omega), List.drop_of_length_le (by omega)]
    simpa [srt] using hown
  · rw [if_neg (show ¬ cap = k by omega)]
    have hH : Holds (Value.int .i64) w g k (xs.drop k).toArray := by
      intro j hj
      simp only [List.size_toArray, List.length_drop] at hj
      have hc := hown.cellAt (k + j) (by omega)
      refine ⟨?_, hown.frozenAt _⟩
      rw [hc, List.getElem?_map, List.getElem?_eq_getElem (by omega), Option.map_some]
      congr 2
      rw [List.getElem!_toArray]
      simp [List.getElem?_eq_getElem (show k + j < xs.length by omega)]
    have hlt : g < w.heap.size := (hown.lt g rfl).2
    have hs := Try.slices_Sort_int g k c2 (xs.drop k) w hH hlt (by rw [List.length_drop]; omega)
    rw [List.length_drop, hx] at hs
    refine hs.mono ?_
    rintro e w' ⟨rfl, q, os, rfl⟩
    rw [Lib.sorted_world (Value.int .i64) w g k q _ _ os hH (by simp)]
    refine ⟨rfl, ?_, ?_⟩
    · have h1 : (w.drewN q).ownsRow base 3 1 (.slice (some ⟨g, 0, none⟩) n cap) n (xs.map (Value.int .i64)) := hown
      have h2 := own_grow (own_setCells ((srt (xs.drop k)).map (Value.int .i64)) _ _ k h1) os
      rw [setL_end _ _ _ (by simp [srt, List.length_mergeSort]; omega), ← List.map_take, ← List.map_append] at h2
      exact h2
    · intro B a hb hg hB
      refine below_grow (below_setCells hg _ _ _ (pw_below_drewN hb q)) ?_ os
      have h3 := below_setCells (Nat.zero_le g) ((srt (xs.drop k)).map (Value.int .i64)) (w.drewN q) k (Below.refl 0 _)
      exact Nat.le_trans hB h3.size

def lanes_Next.f (l0 : List Int) : Option (List Int × Bool) := if l0.length ≤ 4611686018427387904 then some (nextN l0) else none
theorem rows_good (l : List Int) (hl : l.length ≤ 4611686018427387904) (h : goodN l) : lanes_rows.f l = some ((zs l : Int), (os l : Int), true) := by
  unfold lanes_rows.f rowsN
  rw [if_pos hl, if_pos h.1, decide_eq_true h.2]
theorem rows_bad (l : List Int) (hl : l.length ≤ 4611686018427387904) (h : ¬ goodN l) : ∃ a b, lanes_rows.f l = some (a, b, false) := by
  unfold lanes_rows.f rowsN
  rw [if_pos hl]
  by_cases hk : okB l = true
  · rw [if_pos hk, decide_eq_false (fun hm => h ⟨hk, hm⟩)]; exact ⟨_, _, rfl⟩
  · rw [if_neg hk]; exact ⟨_, _, rfl⟩
theorem R_of_own {w : World} {base n : Nat} {v : Value} {xs : List Int} (h : w.ownsRow base 3 1 v n (xs.map (Value.int .i64))) (hn : xs.length = n) : Kd.R (Kd.int .i64) 3 w base (fun _ => True) v xs := by
  subst hn
  exact Kd.R_of_own h (fun _ _ => trivial)

set_option maxHeartbeats 4000000 in
theorem lanes_Next.calls (A0 : Option Addr) (c0 : Nat) (l0 : List Int) (r1 : List Int) (r2 : Bool) (w : World) (hr0 : Kd.C (Kd.int .i64) w A0 l0.length l0) (hc0 : l0.length ≤ c0) (h : lanes_Next.f l0 = some (r1, r2)) :
    Calls Try.prog 15 #[.slice A0 l0.length c0] w fun e w' => ∃ v0_ : Value, e = .returned (.tuple #[v0_, .bool r2]) ∧ Kd.R (Kd.int .i64) 3 w' w.heap.size (fun _ => True) v0_ r1 ∧ Below w.heap.size w w' := by
  have HX : l0.length ≤ 4611686018427387904 := by
    by_cases hh : l0.length ≤ 4611686018427387904
    · exact hh
    · rw [lanes_Next.f, if_neg hh] at h; cases h
  rw [lanes_Next.f, if_pos HX, nextN] at h
  have HR0 := Aside0.mk hr0
  have HC0 := Aside0.mk hc0
  clear hr0 hc0
  by_cases hg : goodN l0
  · rw [if_pos hg] at h
    have hlen := len_split l0 hg.1
    have H60 : l0.length ≤ 60 := by
      obtain ⟨m0, m1, m2, m3⟩ := hg.2
      omega
    have HQ := Aside0.mk (rows_good l0 HX hg)
    have HG := Aside0.mk hg.1
    have HF := Aside0.mk h
    clear hg h hlen
    go_enter Try.func15, Try.ntmps15
    go_wp2_with (go_at_call 21; refine (lanes_rows.calls A0 c0 l0 _ _ _ _ HR0.out HC0.out HQ.out).mono ?_; rintro e w1 ⟨rfl, hb⟩)
    have W19 : wrap64 ((l0.length : Int) - 2) = (l0.length : Int) - 2 := w64 (by omega) (by omega)
    go_loopg [7] l0.length (fun kq v7 w' => ∃ (i : Int), v7 = .int .i64 i ∧ -2 ≤ i ∧ i + 2 ≤ (l0.length : Int) ∧ kq = (i + 2).toNat ∧ Aside0 (nextW (l0.drop (i + 1).toNat) = none) ∧ Below w.heap.size w w')
    case atStart =>
      refine ⟨(l0.length : Int) - 2, rfl, by omega, by omega, by omega, ⟨?_⟩, hb⟩
      rcases Nat.lt_or_ge l0.length 1 with hz | hz
      · rw [List.drop_of_length_le (by omega)]; rfl
      · rw [show ((l0.length : Int) - 2 + 1).toNat = l0.length - 1 by omega, drop_rd l0 (l0.length - 1) (by omega), List.drop_of_length_le (by omega)]
        simp [nextW, os]
    case round =>
      clear hb
      obtain ⟨i, rfl, hi0, hi1, hgk, HN, hbel⟩ := hrel
      by_cases hlt : 0 ≤ i
      · have hd : decide (0 ≤ i) = true := decide_eq_true hlt
        obtain ⟨gk, rfl⟩ : ∃ m, gk = m + 1 := ⟨gk - 1, by omega⟩
        obtain ⟨p, HP⟩ : ∃ p : Nat, Aside0 (i = (p : Int)) := ⟨i.toNat, ⟨by omega⟩⟩
        have HN1 : Aside0 (nextW (l0.drop (p + 1)) = none) := ⟨by have := HN.out; have hp := HP.out; rwa [show (i + 1).toNat = p + 1 by omega] at this⟩
        clear HN
        have p0 : 0 ≤ i := hlt
        have q0 : i < (l0.length : Int) := by omega
        have W1 : wrap64 (i + 1) = i + 1 := w64 (by omega) (by omega)
        have W3 : wrap64 (i - 1) = i - 1 := w64 (by omega) (by omega)
        have p1 : 0 ≤ wrap64 (i + 1) := by omega
        have q1 : wrap64 (i + 1) < (l0.length : Int) := by omega
        have HK := Aside0.mk (show p + 2 ≤ l0.length by have := HP.out; omega)
        obtain ⟨ad, ead, hx⟩ := Kd.at_int (Kd.C_below HR0.out hbel) i p0 q0
        obtain ⟨ad2, ead2, hx2⟩ := Kd.at_int (Kd.C_below HR0.out hbel) (wrap64 (i + 1)) p1 q1
        cases ead
        cases ead2
        have HW := Aside0.mk (And.intro W1 W3)
        clear W1 W3
        have HS : Aside0 (ad.spot = none) := ⟨by
          obtain ⟨ad3, e3, h3⟩ := Kd.at_int (Kd.C_below HR0.out hbel) 0 (by omega) (by omega)
          cases e3
          exact spot_none (show wr.cell? ad = _ from h3)⟩
        have HM := Aside0.mk (And.intro hi0 (And.intro hi1 hgk))
        replace p0 := eq_true p0
        replace q0 := eq_true q0
        replace p1 := eq_true p1
        replace q1 := eq_true q1
        clear hi0 hi1 hgk hlt
        by_cases e0 : rd l0 i = 0
        · have b0 : ((rd l0 i) == 0) = true := beq_iff_eq.mpr e0
          by_cases e1 : rd l0 (wrap64 (i + 1)) = 1
          · have b1 : ((rd l0 (wrap64 (i + 1))) == 1) = true := beq_iff_eq.mpr e1
            have HE := Aside0.mk (And.intro e0 e1)
            clear e0 e1
            obtain ⟨ab, ao, asp⟩ := ad
            obtain rfl : asp = none := HS.out
            have HC : Aside0 (∀ j, j < l0.length → wr.cell? ⟨ab, ao + j, none⟩ = some (.int .i64 (l0.getD j 0))) := ⟨fun j hj => by
              obtain ⟨ad3, e3, h3⟩ := Kd.at_int (Kd.C_below HR0.out hbel) (j : Int) (by omega) (by omega)
              cases e3
              rw [Int.toNat_natCast] at h3
              rw [Addr.add_lit] at h3
              exact h3⟩
            rw [Addr.add_lit] at hx hx2
            have W2 : wrap64 (i + 2) = i + 2 := w64 (by have := HP.out; omega) (by have := HP.out; have := HK.out; omega)
            have HK2 : (wrap64 (i + 2)).toNat ≤ l0.length := by have := HP.out; have := HK.out; omega
            have HO2 : ∀ (w2 : World) (g cap : Nat), w2.ownsRow wr.heap.size 3 1 (.slice (some ⟨g, 0, none⟩) l0.length cap) l0.length ((l0.take l0.length).map (Value.int .i64)) → ((w2.setCell ⟨g, i.toNat, none⟩ (.int .i64 1)).setCell ⟨g, (wrap64 (i + 1)).toNat, none⟩ (.int .i64 0)).ownsRow wr.heap.size 3 1 (.slice (some ⟨g, 0, none⟩) l0.length cap) l0.length (((l0.set i.toNat 1).set (wrap64 (i + 1)).toNat 0).map (Value.int .i64)) := fun w2 g cap hh => by
              rw [List.take_of_length_le (Nat.le_refl _)] at hh
              have h2 := ((hh.stored i.toNat (.int .i64 1)).1.stored (wrap64 (i + 1)).toNat (.int .i64 0)).1
              rwa [← List.map_set, ← List.map_set] at h2
            have s0 : (0 ≤ wrap64 (i + 2)) = True := eq_true (by have := HP.out; omega)
            have s1 : ((wrap64 (i + 2)).toNat ≤ l0.length) = True := eq_true HK2
            have s2 : (wrap64 (i + 2) ≤ (l0.length : Int)) = True := eq_true (by have := HP.out; have := HK.out; omega)
            have hp := HP.out
            have hE := HE.out
            have hW1 := HW.out.1
            have e1' : rd l0 ((p + 1 : Nat) : Int) = 1 := by rw [show ((p + 1 : Nat) : Int) = wrap64 (i + 1) by omega]; exact hE.2
            have e0' : rd l0 (p : Int) = 0 := by rw [← hp]; exact hE.1
            have hit := next_hit l0 HG.out p HK.out HN1.out e0' e1'
            have hF := HF.out
            rw [hit] at hF
            simp only [Prod.mk.injEq, Option.some.injEq] at hF
            obtain ⟨hr1, rfl⟩ := hF
            have HFIN : Aside0 (∀ (w3 : World) (g cap cap2 : Nat), w3.ownsRow wr.heap.size 3 1 (.slice (some ⟨g, 0, none⟩) l0.length cap) l0.length (((((l0.set i.toNat 1).set (wrap64 (i + 1)).toNat 0)).take (wrap64 (i + 2)).toNat ++ srt (((l0.set i.toNat 1).set (wrap64 (i + 1)).toNat 0).drop (wrap64 (i + 2)).toNat)).map (Value.int .i64)) → cap2 = cap → Kd.R (Kd.int .i64) 3 w3 w.heap.size (fun _ => True) (.slice (some ⟨g, 0, none⟩) l0.length cap2) r1) := ⟨fun w3 g cap cap2 hh hcc => by
              subst hcc
              rw [show i.toNat = p by omega, show (wrap64 (i + 1)).toNat = p + 1 by omega, show (wrap64 (i + 2)).toNat = p + 2 by omega, set2_take l0 p HK.out, set2_drop] at hh
              have e : l0.take p ++ [1, 0] ++ srt (l0.drop (p + 2)) = r1 := by rw [← hr1]; simp [srt]
              rw [e] at hh
              have hl : r1.length = l0.length := by rw [← hr1]; simp [List.length_mergeSort]; have := HK.out; omega
              exact R_of_own (own_weaken hh hbel.size) hl⟩
            clear hp hE hW1 e1' e0' hit hr1
            have HW2 := Aside0.mk W2
            clear W2
            go_wp2_with (first | (go_at_call 23; refine (Try.slices_Clone_int ab ao l0.length c0 l0 _ (Nat.le_refl _) (by omega) HC.out).mono ?_; rintro e w2 ⟨v', rfl, hown, hnn, hb2⟩; have HO := Aside0.mk hown; obtain ⟨hxl, hrest⟩ := hown; rcases hrest with ⟨rfl, _⟩ | ⟨g, cap, cur, rfl, hbg, hgh, hcap, hcm, hcs, hct⟩; exact absurd rfl hnn; have HCM := Aside0.mk hcm; have HCP := Aside0.mk hcap; clear hxl hct hcs hcm hcap hgh; have f1 : w2.frozen? ⟨g, i.toNat, none⟩ = false := HO.out.frozenAt _; have f2 : w2.frozen? ⟨g, (wrap64 (i + 1)).toNat, none⟩ = false := HO.out.frozenAt _; obtain ⟨u1, k1⟩ := own_some HO.out i.toNat (by have := HP.out; have := HK.out; omega); obtain ⟨u2, k2⟩ := own_some HO.out (wrap64 (i + 1)).toNat (by have := HP.out; have := HK.out; have := HW.out.1; omega); have k3 : ∃ u3, (w2.setCell ⟨g, i.toNat, none⟩ (.int .i64 1)).cell? ⟨g, (wrap64 (i + 1)).toNat, none⟩ = some u3 := own_some (HO.out.stored i.toNat _).1 _ (by have := HP.out; have := HK.out; have := HW.out.1; omega); obtain ⟨u3, k3⟩ := k3) | (go_at_call 24; refine (sort_own (HO2 _ _ _ HO.out) (by simp) (HK2 ) (by omega) HCP.out).mono ?_; rintro e w3 ⟨rfl, hown3, hbl3⟩))
            all_goals
              go_ret2
              refine ⟨_, rfl, HFIN.out _ _ _ _ hown3 (by first | rfl | assumption | (symm; assumption)), hbl3 _ _ (((hbel.trans (hb2.mono hbel.size)).setCell (Nat.le_trans hbel.size hbg) _).setCell (Nat.le_trans hbel.size hbg) _) (Nat.le_trans hbel.size hbg) ?_⟩
              exact ((((hbel.trans (hb2.mono hbel.size)).setCell (p := ⟨g, i.toNat, none⟩) (Nat.le_trans hbel.size hbg) _).setCell (p := ⟨g, (wrap64 (i + 1)).toNat, none⟩) (Nat.le_trans hbel.size hbg) _)).size
          · have b1 : ((rd l0 (wrap64 (i + 1))) == 1) = false := beq_eq_false_iff_ne.mpr e1
            have HE := Aside0.mk e1
            clear e0 e1
            go_wp2
            go_roundg gk
            case measure => omega
            case rel =>
              obtain ⟨hi0, hi1, hgk⟩ := HM.out
              have hp := HP.out
              have hm := next_miss l0 HG.out p HK.out HN1.out (fun hh => HE.out (by rw [HW.out.1, show i + 1 = ((p + 1 : Nat) : Int) by omega]; exact hh.2))
              exact ⟨i - 1, by rw [HW.out.2], by omega, by omega, by omega, ⟨by rw [show (i - 1 + 1).toNat = p by omega]; exact hm⟩, hbel⟩
        · have b0 : ((rd l0 i) == 0) = false := beq_eq_false_iff_ne.mpr e0
          have HE := Aside0.mk e0
          clear e0
          go_wp2
          go_roundg gk
          case measure => omega
          case rel =>
            obtain ⟨hi0, hi1, hgk⟩ := HM.out
            have hp := HP.out
            have hm := next_miss l0 HG.out p HK.out HN1.out (fun hh => HE.out (by rw [hp]; exact hh.1))
            exact ⟨i - 1, by rw [HW.out.2], by omega, by omega, by omega, ⟨by rw [show (i - 1 + 1).toNat = p by omega]; exact hm⟩, hbel⟩
      · have hd : decide (0 ≤ i) = false := decide_eq_false hlt
        have HN1 : nextW l0 = none := by
          have := HN.out
          rwa [show (i + 1).toNat = 0 by omega, List.drop_zero] at this
        have h := HF.out
        rw [HN1] at h
        simp only [Prod.mk.injEq, Option.some.injEq] at h
        obtain ⟨rfl, rfl⟩ := h
        go_wp2
        go_ret2
        exact ⟨_, rfl, Kd.R_nil _ _ _ _ _, hbel⟩
  · rw [if_neg hg] at h
    simp only [Prod.mk.injEq, Option.some.injEq] at h
    obtain ⟨rfl, rfl⟩ := h
    obtain ⟨a, b, hq⟩ := rows_bad l0 HX hg
    have HQ := Aside0.mk hq
    clear hq hg
    go_enter Try.func15, Try.ntmps15
    go_wp2_with (go_at_call 21; refine (lanes_rows.calls A0 c0 l0 _ _ _ _ HR0.out HC0.out HQ.out).mono ?_; rintro e w1 ⟨rfl, hb⟩)
    go_ret2
    exact ⟨_, rfl, Kd.R_nil _ _ _ _ _, hb⟩

end Go.Proofs.Ytpmkkohnpfpifaa.X

/- CallcodeNums: the walk. Conditions: a bound on the text's length. -/
import Derived.Test.YtkachkmmjlboeaaDoorXLives
namespace Go.Proofs.YtkachkmmjlboeaaDoor.X
open Go.RowKit Go.Proofs.YtkachkmmjlboeaaDoor.YAll Go.Proofs.YtkachkmmjlboeaaDoorW.PrintWords Go.Proofs.YtkachkmmjlboeaaDoorW.PrintLast Go.Proofs.YtkachkmmjlboeaaDoorW.PrintMore
set_option linter.unusedVariables false
set_option linter.unusedSimpArgs false
theorem same_l (l : List ByteArray) (hl : l.length ≤ 3000000) : ∀ (d i k : Nat), i + d = l.length → d + 1 ≤ k → assartlaw30_Texts_Same.l0 k l l (i : Int) = some true
  | 0, i, k + 1, h, hk => by
    unfold assartlaw30_Texts_Same.l0
    rw [if_neg (by omega)]
  | d + 1, i, k + 1, h, hk => by
    unfold assartlaw30_Texts_Same.l0
    rw [if_pos (by omega), if_pos (by omega), if_pos (by omega), if_pos rfl, show wrap64 ((i : Int) + 1) = ((i + 1 : Nat) : Int) from w64 (by omega) (by omega)]
    exact same_l l hl d (i + 1) k (by omega) (by omega)
theorem same_f (l : List ByteArray) (hl : l.length ≤ 3000000) : assartlaw30_Texts_Same.f (l.length + 1) l l = some true := by
  unfold assartlaw30_Texts_Same.f
  rw [if_pos rfl]
  exact same_l l hl l.length 0 _ (by omega) (by omega)
theorem Txt.below {w w' : World} {A : Option Addr} {n : Nat} {ls : List (List UInt8)} (h : Txt w A n ls) (hb : Below w.heap.size w w') : Txt w' A n ls := Kd.C_below h hb
theorem drawn_below {w w' : World} (h : Drawn0 w w') : Below w.heap.size w w' := by
  obtain ⟨n, rfl⟩ := h
  exact pw_below_drewN (Below.refl _ _) n
theorem read_to (l : List UInt8) (v : Int) (b : Bool) (w : World) (h : rdV l = (v, b)) : Calls Tryd.prog 8 #[.string (bs l)] w fun e w' => e = .returned (.tuple #[.int .i64 v, .bool b]) ∧ Below w.heap.size w w' := by
  have := read_calls l w
  unfold ReadPost at this
  rw [h] at this
  exact this
theorem refread_to (l : List UInt8) (v : Int) (b : Bool) (w : World) (h : rdV l = (v, b)) : Calls Tryd.prog 9 #[.string (bs l)] w fun e w' => e = .returned (.tuple #[.int .i64 v, .bool b]) ∧ Below w.heap.size w w' := by
  have := refread_calls l w
  unfold ReadPost at this
  rw [h] at this
  exact this
theorem flds_short (l : List UInt8) (hl : l.length ≤ 2000000) : (flds l).length ≤ 2000001 := by
  have h1 := flds_len l
  have h2 := List.count_le_length (a := (32 : UInt8)) (l := l)
  omega
/-- assartref30.Fields: a row of the call's own. -/
theorem reffields_calls (l : List UInt8) (w : World) (hl : l.length ≤ 2000000) : Calls Tryd.prog 14 #[.string (bs l)] w fun e w' => ∃ A cap, e = .returned (.slice A (flds l).length cap) ∧ (flds l).length ≤ cap ∧ Txt w' A (flds l).length (flds l) ∧ Below w.heap.size w w' :=
  (assartref30_Fields.calls _ (bs l) _ w (refflds_f l hl)).mono fun e w' ⟨v, he, hR, hB⟩ => by
    have hp : 0 < ((flds l).map bs).length := by rw [List.length_map]; exact List.length_pos_iff.2 (flds_ne l)
    obtain ⟨g, cap, rfl, hb, hlc, cells, hcl⟩ := Kd.R_form hR hp
    obtain ⟨hn, hcap, hC⟩ := Kd.R_reads' hR
    rw [List.length_map] at he hcap hC
    exact ⟨_, cap, he, hcap, by unfold Txt; exact hC, hB⟩
theorem same_calls (A B : Option Addr) (c d : Nat) (ls : List (List UInt8)) (w : World) (hA : Txt w A ls.length ls) (hc : ls.length ≤ c) (hB : Txt w B ls.length ls) (hd : ls.length ≤ d) (hl : ls.length ≤ 3000000) :
    Calls Tryd.prog 13 #[.slice A ls.length c, .slice B ls.length d] w fun e w' => e = .returned (.bool true) ∧ Below w.heap.size w w' := by
  have h := assartlaw30_Texts_Same.calls _ A c (ls.map bs) B d (ls.map bs) true w (by rw [List.length_map]; exact hA) (by rw [List.length_map]; exact hc) (by rw [List.length_map]; exact hB) (by rw [List.length_map]; exact hd) (same_f _ (by rw [List.length_map]; exact hl))
  rw [List.length_map] at h
  exact h.mono fun e w' ⟨he, hD⟩ => ⟨he, drawn_below hD⟩
set_option maxRecDepth 100000 in
set_option maxHeartbeats 20000000 in
theorem nums_walk (n : Int) (hI : In64 n) (y : List UInt8) (hy : y.length ≤ 2000000) (w : World) (hm : Mx w) :
    Calls Tryd.prog 3 #[.int .i64 n, .string (bs y)] w fun e w' => e = .returned (.bool true) ∧ Below w.heap.size w w' := by
  have HM := Aside0.mk hm
  have HI := Aside0.mk hI
  have HY := Aside0.mk hy
  clear hI hm hy
  obtain ⟨m, b, hr⟩ : ∃ m b, rdV y = (m, b) := ⟨_, _, rfl⟩
  have HR := Aside0.mk hr
  clear hr
  obtain ⟨fs, hfs⟩ : ∃ fs, flds y = fs := ⟨_, rfl⟩
  have HF := Aside0.mk hfs
  have HFL : Aside0 (fs.length ≤ 3000000) := ⟨by rw [← hfs]; have := flds_short y HY.out; omega⟩
  clear hfs
  have hbb : (b == b) = true := by cases b <;> rfl
  go_enter Tryd.func3, Tryd.ntmps3
  go_wp2_with (first
    | (go_at_call 15; have _z := HB7; (with_reducible refine (lives_calls _ (HM.out.below HB7.out)).mono ?_); rintro e w8 ⟨rfl, hB8⟩; have HB8 := Aside0.mk (bthen HB7.out hB8); clear hB8)
    | (go_at_call 13; have _z := HB6; (with_reducible refine (same_calls _ _ _ _ fs _ (Txt.below HT5.out hZ6.out) (Nat.le_refl _) HT6.out.2 HT6.out.1 HFL.out).mono ?_); rintro e w7 ⟨rfl, hB7⟩; have HB7 := Aside0.mk (bthen HB6.out hB7); clear hB7)
    | (go_at_call 14; have _z := HB5; (with_reducible refine (reffields_calls y _ HY.out).mono ?_); rintro e w6 ⟨A6, c6, rfl, hc6, hT6, hB6⟩; rw [HF.out] at hc6 hT6 ⊢; have HT6 := Aside0.mk (And.intro hc6 hT6); have hZ6 := Aside0.mk hB6; have HB6 := Aside0.mk (bthen HB5.out hB6); clear hB6 hT6 hc6)
    | (go_at_call 12; have _z := HB4; (with_reducible refine (fields_calls y _ (HM.out.below HB4.out) HY.out).mono ?_); rintro e w5 ⟨b5, rfl, hb5, hT5, hB5⟩; rw [HF.out] at hT5 ⊢; have HT5 := Aside0.mk hT5; have HB5 := Aside0.mk (bthen HB4.out hB5); clear hB5 hT5)
    | (go_at_call 11; have _z := HB3; (with_reducible refine (refnum_calls n _ HI.out).mono ?_); rintro e w4 ⟨rfl, hB4⟩; have HB4 := Aside0.mk (bthen HB3.out hB4); clear hB4)
    | (go_at_call 10; have _z := HB2; (with_reducible refine (num_calls n _ HI.out).mono ?_); rintro e w3 ⟨rfl, hB3⟩; have HB3 := Aside0.mk (bthen HB2.out hB3); clear hB3)
    | (go_at_call 9; have _z := HB1; (with_reducible refine (refread_to y m b _ HR.out).mono ?_); rintro e w2 ⟨rfl, hB2⟩; have HB2 := Aside0.mk (bthen HB1.out hB2); clear hB2)
    | (go_at_call 8; (with_reducible refine (read_to y m b _ HR.out).mono ?_); rintro e w1 ⟨rfl, hB1⟩; have HB1 := Aside0.mk hB1; clear hB1))
  go_ret
  exact ⟨rfl, HB8.out⟩
end Go.Proofs.YtkachkmmjlboeaaDoor.X

/- A text's pieces: the program's Fields and the reference's. Conditions: none. -/
import Derived.Test.YtkachkmmjlboeaaDoorXRead
import Derived.Lib.SplitLaws
namespace Go.Proofs.YtkachkmmjlboeaaDoor.X
open Go.RowKit Go.Proofs.YtkachkmmjlboeaaDoor.YAll Go.Proofs.YtkachkmmjlboeaaDoorW.PrintWords Go.Proofs.YtkachkmmjlboeaaDoorW.PrintLast Go.Proofs.YtkachkmmjlboeaaDoorW.PrintMore
set_option linter.unusedVariables false
set_option linter.unusedSimpArgs false

/-- A text's pieces between single blanks. -/
def flds : List UInt8 → List (List UInt8)
  | [] => [[]]
  | c :: r => if c = 32 then [] :: flds r else match flds r with
    | f :: fs => (c :: f) :: fs
    | [] => [[c]]
theorem flds_ne (l : List UInt8) : flds l ≠ [] := by
  cases l with
  | nil => simp [flds]
  | cons c r => unfold flds; split <;> (try split) <;> simp
theorem flds_cons (l : List UInt8) : ∃ f fs, flds l = f :: fs := by
  cases h : flds l with
  | nil => exact absurd h (flds_ne l)
  | cons f fs => exact ⟨f, fs, rfl⟩
theorem split_flds : ∀ (l : List UInt8), Lib.splitK [32] 0 (l.count 32) l = flds l
  | [] => rfl
  | c :: r => by
    have ih := split_flds r
    by_cases hc : c = 32
    · subst hc
      rw [List.count_cons_self]
      unfold Lib.splitK
      have e : Lib.index (32 :: r) [32] = 0 := by rw [Lib.index_one]; unfold Lib.indexByte; rw [if_pos (by rfl)]
      rw [e, if_neg (by decide)]
      show [] :: Lib.splitK [32] 0 (r.count 32) r = flds (32 :: r)
      rw [ih]
      conv => rhs; unfold flds
      rw [if_pos rfl]
    · have hcnt : (c :: r).count 32 = r.count 32 := by rw [List.count_cons]; simp [hc]
      rw [hcnt]
      conv => rhs; unfold flds
      rw [if_neg hc]
      obtain ⟨k, hk⟩ : ∃ k, r.count 32 = k := ⟨_, rfl⟩
      rw [hk] at ih ⊢
      cases k with
      | zero =>
        rw [← ih]
        rfl
      | succ k =>
        have hix : Lib.index (c :: r) [32] = if Lib.index r [32] == -1 then -1 else Lib.index r [32] + 1 := by
          rw [Lib.index_one, Lib.index_one]
          conv => lhs; unfold Lib.indexByte
          rw [if_neg (by simpa using hc)]
        have hne : Lib.index r [32] ≠ -1 := by
          rw [Lib.index_one]
          intro e
          have h0 := Lib.indexByte_none e
          have : r.count 32 = 0 := List.count_eq_zero.2 (fun hm => by
            obtain ⟨j, hj⟩ := List.getElem?_of_mem hm
            exact h0 j hj)
          omega
        have hge : -1 ≤ Lib.index r [32] := by rw [Lib.index_one]; exact Lib.indexByte_ge _ _
        obtain ⟨i, hi⟩ : ∃ i : Nat, Lib.index r [32] = i := ⟨(Lib.index r [32]).toNat, by omega⟩
        unfold Lib.splitK at ih ⊢
        rw [hix, hi]
        rw [hi] at ih
        have q1 : ((i : Int) == -1) = false := by simp
        have q2 : ((i : Int) + 1 == -1) = false := by simp; omega
        rw [q1] at ih ⊢
        simp only [Bool.false_eq_true, if_false, q2] at ih ⊢
        rw [← ih]
        simp only [Int.toNat_natCast, Nat.add_zero, List.length_singleton]
        rw [show ((i : Int) + 1).toNat = i + 1 by omega]
        rfl
theorem flds_len (l : List UInt8) : (flds l).length = l.count 32 + 1 := by
  induction l with
  | nil => rfl
  | cons c r ih =>
    unfold flds
    by_cases hc : c = 32
    · rw [if_pos hc, List.length_cons, ih, hc, List.count_cons_self]
    · rw [if_neg hc]
      obtain ⟨f, fs, e⟩ := flds_cons r
      rw [e] at ih ⊢
      rw [List.count_cons]
      simp [hc]
      simpa using ih
/-- What the library's Split tells. -/
theorem split_bs (l : List UInt8) : Lib.splitB ⟨#[32]⟩ 0 (Lib.countB (bs l) ⟨#[32]⟩) (bs l) = (flds l).map bs := by
  have h := Lib.splitB_data ⟨#[32]⟩ 0 (Lib.countB (bs l) ⟨#[32]⟩) (bs l)
  have hc : Lib.countB (bs l) ⟨#[32]⟩ = l.count 32 := Lib.count_one 32 l
  rw [hc] at h ⊢
  have h2 : (Lib.splitB ⟨#[32]⟩ 0 (l.count 32) (bs l)).map (·.data.toList) = flds l := h.trans (split_flds l)
  have back : ∀ xs : List ByteArray, (xs.map (·.data.toList)).map bs = xs := by
    intro xs
    rw [List.map_map]
    conv => rhs; rw [← List.map_id xs]
    apply List.map_congr_left
    intro x _
    apply ByteArray.ext
    simp [bs]
  rw [← h2, back]
theorem count_bs (l : List UInt8) : Lib.countB (bs l) ⟨#[32]⟩ + 1 = (flds l).length := by rw [flds_len]; exact congrArg (· + 1) (Lib.count_one 32 l)
/-- A row of texts. -/
def Txt (w : World) (A : Option Addr) (n : Nat) (ls : List (List UInt8)) : Prop := Kd.C Kd.string w A n (ls.map bs)
/-- A row of texts of the call's own is told; all that was is as it was. -/
def TRow (w : World) (ls : List (List UInt8)) (e : Ending) (w' : World) : Prop := ∃ b, e = .returned (.slice (some ⟨b, 0, none⟩) ls.length ls.length) ∧ b < w'.heap.size ∧ Txt w' (some ⟨b, 0, none⟩) ls.length ls ∧ Below w.heap.size w w'
def Mx (w : World) : Prop := ∃ m, w.cell? ⟨0, 0, none⟩ = some (.int .i64 m)
theorem Mx.below {w w' : World} (h : Mx w) (hb : Below w.heap.size w w') : Mx w' := by obtain ⟨m, hm⟩ := h; exact ⟨m, pw_cell_below hb hm⟩
theorem fields_calls (l : List UInt8) (w : World) (hm : Mx w) (hl : l.length ≤ 2000000) : Calls Tryd.prog 12 #[.string (bs l)] w (TRow w (flds l)) := by
  obtain ⟨m, hm⟩ := hm
  have HM := Aside0.mk hm
  have HL := Aside0.mk hl
  clear hm hl
  go_enter Tryd.func12, Tryd.ntmps12
  go_wp2_with (go_at_call 25; refine (Tryd.strings_Split (bs l) ⟨#[32]⟩ m _ (by rw [bs_size]; have := HL.out; omega) HM.out (by decide)).mono ?_; rintro e w1 ⟨rfl, hw⟩; rw [count_bs l]; rw [split_bs l] at hw; have HW := Aside0.mk hw; clear hw)
  go_ret
  refine ⟨w.heap.size, rfl, by rw [HW.out]; exact blk_lt (blk_new w _), ?_, by rw [HW.out]; exact ballo (Below.refl _ _) _⟩
  rw [HW.out]
  refine ⟨by simp, by have := HL.out; have := flds_len l; have := List.count_le_length (a := (32 : UInt8)) (l := l); omega, fun _ => ⟨_, rfl, fun j p hj => ?_⟩⟩
  have hb := blk_new w (.cells ((List.map bs (flds l)).map Value.string).toArray 9)
  refine ⟨[.string p], rfl, rfl, fun i u hu => ?_⟩
  have hi : i < 1 := (List.getElem?_eq_some_iff.1 hu).1
  obtain rfl : i = 0 := by omega
  rw [Addr.add_lit, blk_cell hb]
  have e : Kd.string.sz = 1 := rfl
  rw [e]
  simp only [Nat.mul_one, Nat.add_zero, Nat.zero_add, List.getElem?_toArray, List.getElem?_map]
  rw [List.getElem?_map] at hj
  rw [hj]
  exact hu

/-! ### the reference's Fields -/
def fl (pre rest : List UInt8) : List (List UInt8) := match flds rest with
  | f :: fs => (pre ++ f) :: fs
  | [] => [pre]
theorem fl_nil (rest : List UInt8) : fl [] rest = flds rest := by
  unfold fl
  obtain ⟨f, fs, e⟩ := flds_cons rest
  rw [e]; rfl
theorem fl_blank (pre rest : List UInt8) : fl pre (32 :: rest) = pre :: flds rest := by
  unfold fl
  have e : flds (32 :: rest) = [] :: flds rest := by conv => lhs; unfold flds
                                                     rw [if_pos rfl]
  rw [e]
  simp
theorem fl_other (pre rest : List UInt8) (c : UInt8) (h : c ≠ 32) : fl pre (c :: rest) = fl (pre ++ [c]) rest := by
  unfold fl
  obtain ⟨f, fs, e⟩ := flds_cons rest
  have e2 : flds (c :: rest) = (c :: f) :: fs := by
    conv => lhs; unfold flds
    rw [if_neg h, e]
  rw [e, e2]
  simp
theorem bs_extract (l : List UInt8) (a b : Nat) : (bs l).extract a b = bs ((l.take b).drop a) := by
  apply ByteArray.ext
  apply Array.ext'
  rw [Lib.extract_data]
  simp [bs, List.drop_take]
theorem refflds_l (l : List UInt8) (hl : l.length ≤ 2000000) : ∀ (d i a k : Nat) (out : List ByteArray), i + d = l.length → a ≤ i → out.length ≤ i → d + 3 ≤ k → assartref30_Fields.l0 k (bs l) out (a : Int) (i : Int) = some (out ++ (fl ((l.take i).drop a) (l.drop i)).map bs) := by
  intro d
  induction d with
  | zero =>
    intro i a k out hi ha ho hk
    obtain ⟨k, rfl⟩ : ∃ m, k = m + 1 + 1 := ⟨k - 2, by omega⟩
    rw [assartref30_Fields.l0, bs_size]
    rw [if_pos (by omega), if_pos (by omega), if_pos (by omega), if_pos (by omega), if_pos (by omega)]
    rw [assartref30_Fields.l0, bs_size, w64 (by omega) (by omega), if_neg (by omega)]
    rw [bs_extract]
    have e1 : l.drop i = [] := List.drop_eq_nil_of_le (by omega)
    rw [e1]
    simp [fl, flds]
  | succ d ih =>
    intro i a k out hi ha ho hk
    obtain ⟨k, rfl⟩ : ∃ m, k = m + 1 := ⟨k - 1, by omega⟩
    have hlt : i < l.length := by omega
    rw [assartref30_Fields.l0, bs_size]
    rw [if_pos (by omega), if_neg (by omega), if_pos (by omega), if_pos (by omega), bt_bs l i hlt, List.drop_eq_getElem_cons hlt, w64 (a := (i : Int) + 1) (by omega) (by omega)]
    have n1 : (i : Int) + 1 = ((i + 1 : Nat) : Int) := by omega
    have t1 : l.take (i + 1) = l.take i ++ [l[i]] := by rw [List.take_add_one, List.getElem?_eq_getElem hlt]; rfl
    by_cases c : ((l[i]).toNat : Int) = 32
    · have hc : l[i] = 32 := by
        have := UInt8.ofNat_toNat (x := l[i])
        rw [show (l[i]).toNat = 32 by omega] at this
        exact this.symm
      have e1 : (l.take (i + 1)).drop (i + 1) = [] := List.drop_eq_nil_of_le (by rw [List.length_take]; omega)
      rw [if_pos c, if_pos (by omega), if_pos (by omega), if_pos (by omega), n1, bs_extract]
      rw [show ((i : Int)).toNat = i by omega, show ((a : Int)).toNat = a by omega]
      rw [ih (i + 1) (i + 1) k _ (by omega) (by omega) (by simp; omega) (by omega), hc, fl_blank]
      rw [e1, fl_nil]
      simp
    · have hc : l[i] ≠ 32 := fun e => c (by rw [e]; rfl)
      rw [if_neg c, n1, ih (i + 1) a k out (by omega) (by omega) (by omega) (by omega), fl_other _ _ _ hc, t1, List.drop_append_of_le_length (by rw [List.length_take]; omega)]
theorem refflds_f (l : List UInt8) (hl : l.length ≤ 2000000) : assartref30_Fields.f (l.length + 3) (bs l) = some ((flds l).map bs) := by
  unfold assartref30_Fields.f
  have h := refflds_l l hl l.length 0 0 (l.length + 3) [] (by omega) (by omega) (by simp) (by omega)
  simp only [List.take_zero, List.drop_zero, List.drop_nil, List.nil_append, fl_nil] at h
  exact h
end Go.Proofs.YtkachkmmjlboeaaDoor.X

/- assartref30.Parse tells parseT. Conditions: a bound on the text's length. -/
import Derived.Test.YtkachkmmjlboeaaDoorXParse
namespace Go.Proofs.YtkachkmmjlboeaaDoor.X
open Go.RowKit Go.Proofs.YtkachkmmjlboeaaDoor.YAll Go.Proofs.YtkachkmmjlboeaaDoorW.PrintWords Go.Proofs.YtkachkmmjlboeaaDoorW.PrintLast Go.Proofs.YtkachkmmjlboeaaDoorW.PrintMore
set_option linter.unusedVariables false
set_option linter.unusedSimpArgs false
theorem upO {α : Type} {f : Nat → Option α} (h : ∀ k, LeO (f k) (f (k + 1))) {r : α} : ∀ (d k : Nat), f k = some r → f (k + d) = some r
  | 0, k, e => e
  | d + 1, k, e => h (k + d) r (upO h d k e)
theorem upTo {α : Type} {f : Nat → Option α} (h : ∀ k, LeO (f k) (f (k + 1))) {r : α} {k k' : Nat} (hk : k ≤ k') (e : f k = some r) : f k' = some r := by
  have := upO h (k' - k) k e
  rwa [show k + (k' - k) = k' by omega] at this
def t6 (r : List Int × Int) : Int × Int × Int × Int × Int × Int := (r.1.getD 0 0, r.1.getD 1 0, r.1.getD 2 0, r.1.getD 3 0, r.1.getD 4 0, r.2)
theorem form_f : ∀ k : Nat, k < 12 → assartref30_form.f ((k : Int) + 1) = some (bs (wd k), (pt k).map fun (p : Nat) => (p : Int) + 1) := by decide +kernel
theorem with_f (p : Nat) (hp : p < 4) (q0 q1 q2 q3 q4 v : Int) : ∃ y0 y1 y2 y3 y4, [q0, q1, q2, q3, q4].set (p + 1) v = [y0, y1, y2, y3, y4] ∧ assartref30_with.f q0 q1 q2 q3 q4 ((p : Int) + 1) v = some (y0, y1, y2, y3, y4) := by
  have h : p = 0 ∨ p = 1 ∨ p = 2 ∨ p = 3 := by omega
  rcases h with rfl | rfl | rfl | rfl <;> exact ⟨_, _, _, _, _, rfl, rfl⟩
theorem at_f (p : Nat) (hp : p < 4) (q0 q1 q2 q3 q4 : Int) : assartref30_at.f q0 q1 q2 q3 q4 ((p : Int) + 1) = some ([q0, q1, q2, q3, q4].getD (p + 1) 0) := by
  have h : p = 0 ∨ p = 1 ∨ p = 2 ∨ p = 3 := by omega
  rcases h with rfl | rfl | rfl | rfl <;> rfl
theorem read_up (l : List UInt8) (k : Nat) (h : 100 ≤ k) : assartref30_Read.f k (bs l) = some (rdV l) := upTo (f := fun k => assartref30_Read.f k (bs l)) (fun k => assartref30_Read.mono _ k) h (refread_f l)
theorem l1_run (w0 : List UInt8) (rest : List (List UInt8)) (kd : Int) (ps : List Nat) (hp4 : ∀ p ∈ ps, p < 4) (hl : rest.length = ps.length) (h2 : ps.length ≤ 2) : ∀ (d i K : Nat) (q0 q1 q2 q3 q4 : Int) (ok : Bool), i + d = ps.length → 100 ≤ K →
    assartref30_Parse.l1 (K + d + 1) ((w0 :: rest).map bs) kd (ps.map fun (p : Nat) => (p : Int) + 1) ok (i : Int) q0 q1 q2 q3 q4 = if ok = true ∧ (rdF (ps.drop i) (rest.drop i) [q0, q1, q2, q3, q4]).2 = true then some (t6 ((rdF (ps.drop i) (rest.drop i) [q0, q1, q2, q3, q4]).1, 0)) else assartref30_Parse.l0 K ((w0 :: rest).map bs) (wrap64 (kd + 1))
  | 0, i, K, q0, q1, q2, q3, q4, ok, hi, hK => by
    unfold assartref30_Parse.l1
    rw [if_neg (by rw [List.length_map]; omega), List.drop_eq_nil_of_le (by omega : ps.length ≤ i)]
    cases ok with
    | true => rw [if_pos rfl, if_pos ⟨rfl, rfl⟩]; rfl
    | false => rw [if_neg (by decide), if_neg (fun h => by cases h.1)]
  | d + 1, i, K, q0, q1, q2, q3, q4, ok, hi, hK => by
    have hin : i < ps.length := by omega
    have hin2 : i < rest.length := by omega
    rw [show K + (d + 1) + 1 = (K + d + 1) + 1 by omega]
    unfold assartref30_Parse.l1
    have e1 : wrap64 ((i : Int) + 1) = ((i + 1 : Nat) : Int) := w64 (by omega) (by omega)
    rw [if_pos (by rw [List.length_map]; omega), e1, if_pos (by omega), if_pos (by rw [List.length_map, List.length_cons]; omega)]
    have e2 : rdOf ByteArray.empty ((w0 :: rest).map bs) ((i + 1 : Nat) : Int) = bs rest[i] := by
      unfold rdOf
      simp [List.getD, hin2]
    have e3 : rd (ps.map fun (p : Nat) => (p : Int) + 1) (i : Int) = ((ps[i] : Nat) : Int) + 1 := by
      unfold rd
      simp [List.getD, hin]
    rw [e2, read_up _ _ (by omega), Option.bind_some, e3]
    obtain ⟨y0, y1, y2, y3, y4, hy, hw⟩ := with_f ps[i] (hp4 _ (List.getElem_mem _)) q0 q1 q2 q3 q4 (rdV rest[i]).1
    rw [hw, Option.bind_some, Option.bind_some, rdF_next ps rest _ i hin hin2, hy]
    cases ok with
    | true =>
      rw [if_pos rfl, if_pos (by omega), l1_run w0 rest kd ps hp4 hl h2 d (i + 1) K y0 y1 y2 y3 y4 _ (by omega) hK]
      cases hv : (rdV rest[i]).2 with
      | true => rw [if_pos (rfl : true = true)]
      | false => rw [if_neg (fun h => by cases h.1), if_neg (by decide : ¬ (false = true)), if_neg (fun h => by cases h.2)]
    | false =>
      rw [if_neg (by decide), if_pos (by omega), l1_run w0 rest kd ps hp4 hl h2 d (i + 1) K y0 y1 y2 y3 y4 _ (by omega) hK, if_neg (fun h => by cases h.1), if_neg (fun h => by cases h.1)]
theorem l0_run (w0 : List UInt8) (rest : List (List UInt8)) (hr : rest.length ≤ 3000000) : ∀ (e k K : Nat), k + e = 12 → 100 ≤ K → assartref30_Parse.l0 (K + 5 * e + 1) ((w0 :: rest).map bs) ((k : Int) + 1) = some (t6 (parseL w0 rest ((List.range 12).drop k)))
  | 0, k, K, hk, hK => by
    obtain rfl : k = 12 := by omega
    unfold assartref30_Parse.l0
    rfl
  | e + 1, k, K, hk, hK => by
    have hk12 : k < 12 := by omega
    rw [parseL_next w0 rest k hk12, show K + 5 * (e + 1) + 1 = (K + 5 * e + 5) + 1 by omega]
    unfold assartref30_Parse.l0
    have e0 : rdOf ByteArray.empty ((w0 :: rest).map bs) 0 = bs w0 := rfl
    have e9 : wrap64 ((k : Int) + 1 + 1) = ((k + 1 : Nat) : Int) + 1 := by rw [w64 (by omega) (by omega)]; omega
    have hnext : ∀ J, 100 ≤ J → assartref30_Parse.j1 (J + 5 * e + 1 + 1) ((w0 :: rest).map bs) ((k : Int) + 1) ((pt k).map fun (p : Nat) => (p : Int) + 1) true = some (t6 (parseL w0 rest ((List.range 12).drop (k + 1)))) := by
      intro J hJ
      unfold assartref30_Parse.j1
      rw [if_pos rfl, e9]
      exact l0_run w0 rest hr e (k + 1) J (by omega) hJ
    rw [if_pos (by omega), form_f k hk12, Option.bind_some, if_pos (by rw [List.length_map, List.length_cons]; omega), e0, bs_list, bs_list]
    by_cases hw : wd k = w0
    · rw [if_pos hw.symm]
      have hp2 := pt_len k
      by_cases hl : rest.length = (pt k).length
      · have b : ((((w0 :: rest).map bs).length : Int) != wrap64 ((((pt k).map fun (p : Nat) => (p : Int) + 1).length : Int) + 1)) = false := by
          rw [List.length_map, List.length_map, List.length_cons, w64 (by omega) (by omega), bne_eq_false_iff_eq]
          omega
        rw [b, show K + 5 * e + 5 = (K + 5 * e + 4) + 1 by omega]
        unfold assartref30_Parse.j1
        have hrun := l1_run w0 rest ((k : Int) + 1) (pt k) (pt_lt k) hl hp2 (pt k).length 0 ((K + 2 - (pt k).length) + 5 * e + 1) ((k : Int) + 1) 0 0 0 0 true (by omega) (by omega)
        rw [show (K + 2 - (pt k).length) + 5 * e + 1 + (pt k).length + 1 = K + 5 * e + 4 by omega] at hrun
        rw [if_neg (by decide)]
        refine hrun.trans ?_
        rw [List.drop_zero, List.drop_zero, e9, l0_run w0 rest hr e (k + 1) (K + 2 - (pt k).length) (by omega) (by omega)]
        have hf : readF ((k : Int) + 1) (pt k) rest = rdF (pt k) rest [(k : Int) + 1, 0, 0, 0, 0] := if_pos hl
        rw [hf]
        by_cases h : (rdF (pt k) rest [(k : Int) + 1, 0, 0, 0, 0]).2 = true
        · rw [if_pos ⟨rfl, h⟩, if_pos ⟨hw, h⟩]
        · rw [if_neg (fun h' => h h'.2), if_neg (fun h' => h h'.2)]
      · have b : ((((w0 :: rest).map bs).length : Int) != wrap64 ((((pt k).map fun (p : Nat) => (p : Int) + 1).length : Int) + 1)) = true := by
          rw [List.length_map, List.length_map, List.length_cons, w64 (by omega) (by omega), bne_iff_ne]
          omega
        rw [b, show K + 5 * e + 5 = (K + 3) + 5 * e + 1 + 1 by omega, hnext (K + 3) (by omega), if_neg (fun h => by rw [show readF ((k : Int) + 1) (pt k) rest = (zero5, false) from if_neg hl] at h; cases h.2)]
    · rw [if_neg (fun h => hw h.symm), show K + 5 * e + 5 = (K + 3) + 5 * e + 1 + 1 by omega, hnext (K + 3) (by omega), if_neg (fun h => hw h.1)]
theorem refparse_f (l : List UInt8) (hl : l.length ≤ 2000000) : assartref30_Parse.f (l.length + 200 + 5 * 12 + 1) (bs l) = some (t6 (parseT l)) := by
  obtain ⟨w0, rest, hf⟩ := flds_cons l
  have h1 := upTo (f := fun k => assartref30_Fields.f k (bs l)) (fun k => assartref30_Fields.mono _ k) (by omega : l.length + 3 ≤ l.length + 200 + 5 * 12 + 1) (refflds_f l hl)
  unfold assartref30_Parse.f
  have hr : rest.length ≤ 3000000 := by
    have h1 := flds_len l
    have h2 := List.count_le_length (a := (32 : UInt8)) (l := l)
    rw [hf, List.length_cons] at h1
    omega
  have h2 := l0_run w0 rest hr 12 0 (l.length + 200) rfl (by omega)
  have h3 : parseT l = parseL w0 rest ((List.range 12).drop 0) := by unfold parseT; rw [hf]; rfl
  refine (congrArg (fun o => o.bind fun t => assartref30_Parse.l0 (l.length + 200 + 5 * 12 + 1) t 1) h1).trans ?_
  rw [Option.bind_some, hf, h3]
  exact h2
theorem refparse_calls (l : List UInt8) (a b c d e f : Int) (w : World) (hl : l.length ≤ 2000000) (h : parseT l = ([a, b, c, d, e], f)) : Calls Tryd.prog 19 #[.string (bs l)] w fun z w' => z = .returned (.tuple #[.agg #[.int .i64 a, .int .i64 b, .int .i64 c, .int .i64 d, .int .i64 e], .int .i64 f]) ∧ Below w.heap.size w w' :=
  assartref30_Parse.calls _ (bs l) a b c d e f w (by rw [refparse_f l hl, h]; rfl)
end Go.Proofs.YtkachkmmjlboeaaDoor.X

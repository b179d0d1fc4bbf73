/- Contracts of the layers 30 and 31, and plain facts on texts, one behind the other: assartref30.Parse tells parseT. Conditions: a bound on the text's length. | assartref30.Call: contract by hand. Conditions: none. | assartref31.Line: contract by hand. Conditions: none. | assartref31.Entry tells entT. Conditions: a bound on the text's length. | assartref31.Line and Entry in the print's form. Conditions: none. -/
import Derived.Test.YtdaagoagfenadaaDoorMA
import Derived.Test.YtdaagoagfenadaaDoorMB
import Derived.Test.YtdaagoagfenadaaDoorMC
import Derived.Test.YtdaagoagfenadaaDoorYAllf30
import Derived.Test.YtdaagoagfenadaaDoorYAllf31
import Derived.Test.YtdaagoagfenadaaDoorYAllf32
import Derived.Test.YtdaagoagfenadaaDoorYAllf41
import Derived.Test.YtdaagoagfenadaaDoorYAllf42
import Derived.Test.YtdaagoagfenadaaDoorYAllf43
namespace Go.Proofs.YtdaagoagfenadaaDoor.X
open Go.RowKit Go.Proofs.YtdaagoagfenadaaDoor.YAll Go.Proofs.YtdaagoagfenadaaDoorW.PrintWords Go.Proofs.YtdaagoagfenadaaDoorW.PrintLast Go.Proofs.YtdaagoagfenadaaDoorW.PrintMore
set_option linter.unusedVariables false
set_option linter.unusedSimpArgs false
theorem upO {α : Type} {f : Nat → Option α} (h : ∀ k, LeO (f k) (f (k + 1))) {r : α} : ∀ (d k : Nat), f k = some r → f (k + d) = some r
  | 0, k, e => e
  | d + 1, k, e => h (k + d) r (upO h d k e)
theorem upTo {α : Type} {f : Nat → Option α} (h : ∀ k, LeO (f k) (f (k + 1))) {r : α} {k k' : Nat} (hk : k ≤ k') (e : f k = some r) : f k' = some r := by
  have := upO h (k' - k) k e
  rwa [show k + (k' - k) = k' by omega] at this
def t6 (r : List Int × Int) : Int × Int × Int × Int × Int × Int := (r.1.getD 0 0, r.1.getD 1 0, r.1.getD 2 0, r.1.getD 3 0, r.1.getD 4 0, r.2)
theorem form_f : ∀ k : Nat, k < 12 → assartref30_form.f ((k : Int) + 1) = some (bs (wd k), (pt k).map fun (p : Nat) => (p : Int) + 1) := by decide +kernel
theorem with_f (p : Nat) (hp : p < 4) (q0 q1 q2 q3 q4 v : Int) : ∃ y0 y1 y2 y3 y4, [q0, q1, q2, q3, q4].set (p + 1) v = [y0, y1, y2, y3, y4] ∧ assartref30_with.f q0 q1 q2 q3 q4 ((p : Int) + 1) v = some (y0, y1, y2, y3, y4) := by
  have h : p = 0 ∨ p = 1 ∨ p = 2 ∨ p = 3 := by omega
  rcases h with rfl | rfl | rfl | rfl <;> exact ⟨_, _, _, _, _, rfl, rfl⟩
theorem at_f (p : Nat) (hp : p < 4) (q0 q1 q2 q3 q4 : Int) : assartref30_at.f q0 q1 q2 q3 q4 ((p : Int) + 1) = some ([q0, q1, q2, q3, q4].getD (p + 1) 0) := by
  have h : p = 0 ∨ p = 1 ∨ p = 2 ∨ p = 3 := by omega
  rcases h with rfl | rfl | rfl | rfl <;> rfl
theorem read_up (l : List UInt8) (k : Nat) (h : 100 ≤ k) : assartref30_Read.f k (bs l) = some (rdV l) := upTo (f := fun k => assartref30_Read.f k (bs l)) (fun k => assartref30_Read.mono _ k) h (refread_f l)
theorem l1_run (w0 : List UInt8) (rest : List (List UInt8)) (kd : Int) (ps : List Nat) (hp4 : ∀ p ∈ ps, p < 4) (hl : rest.length = ps.length) (h2 : ps.length ≤ 2) : ∀ (d i K : Nat) (q0 q1 q2 q3 q4 : Int) (ok : Bool), i + d = ps.length → 100 ≤ K →
    assartref30_Parse.l1 (K + d + 1) ((w0 :: rest).map bs) kd (ps.map fun (p : Nat) => (p : Int) + 1) ok (i : Int) q0 q1 q2 q3 q4 = if ok = true ∧ (rdF (ps.drop i) (rest.drop i) [q0, q1, q2, q3, q4]).2 = true then some (t6 ((rdF (ps.drop i) (rest.drop i) [q0, q1, q2, q3, q4]).1, 0)) else assartref30_Parse.l0 K ((w0 :: rest).map bs) (wrap64 (kd + 1))
  | 0, i, K, q0, q1, q2, q3, q4, ok, hi, hK => by
    unfold assartref30_Parse.l1
    rw [if_neg (by rw [List.length_map]; omega), List.drop_eq_nil_of_le (by omega : ps.length ≤ i)]
    cases ok with
    | true => rw [if_pos rfl, if_pos ⟨rfl, rfl⟩]; rfl
    | false => rw [if_neg (by decide), if_neg (fun h => by cases h.1)]
  | d + 1, i, K, q0, q1, q2, q3, q4, ok, hi, hK => by
    have hin : i < ps.length := by omega
    have hin2 : i < rest.length := by omega
    rw [show K + (d + 1) + 1 = (K + d + 1) + 1 by omega]
    unfold assartref30_Parse.l1
    have e1 : wrap64 ((i : Int) + 1) = ((i + 1 : Nat) : Int) := w64 (by omega) (by omega)
    rw [if_pos (by rw [List.length_map]; omega), e1, if_pos (by omega), if_pos (by rw [List.length_map, List.length_cons]; omega)]
    have e2 : rdOf ByteArray.empty ((w0 :: rest).map bs) ((i + 1 : Nat) : Int) = bs rest[i] := by
      unfold rdOf
      simp [List.getD, hin2]
    have e3 : rd (ps.map fun (p : Nat) => (p : Int) + 1) (i : Int) = ((ps[i] : Nat) : Int) + 1 := by
      unfold rd
      simp [List.getD, hin]
    rw [e2, read_up _ _ (by omega), Option.bind_some, e3]
    obtain ⟨y0, y1, y2, y3, y4, hy, hw⟩ := with_f ps[i] (hp4 _ (List.getElem_mem _)) q0 q1 q2 q3 q4 (rdV rest[i]).1
    rw [hw, Option.bind_some, Option.bind_some, rdF_next ps rest _ i hin hin2, hy]
    cases ok with
    | true =>
      rw [if_pos rfl, if_pos (by omega), l1_run w0 rest kd ps hp4 hl h2 d (i + 1) K y0 y1 y2 y3 y4 _ (by omega) hK]
      cases hv : (rdV rest[i]).2 with
      | true => rw [if_pos (rfl : true = true)]
      | false => rw [if_neg (fun h => by cases h.1), if_neg (by decide : ¬ (false = true)), if_neg (fun h => by cases h.2)]
    | false =>
      rw [if_neg (by decide), if_pos (by omega), l1_run w0 rest kd ps hp4 hl h2 d (i + 1) K y0 y1 y2 y3 y4 _ (by omega) hK, if_neg (fun h => by cases h.1), if_neg (fun h => by cases h.1)]
theorem l0_run (w0 : List UInt8) (rest : List (List UInt8)) (hr : rest.length ≤ 3000000) : ∀ (e k K : Nat), k + e = 12 → 100 ≤ K → assartref30_Parse.l0 (K + 5 * e + 1) ((w0 :: rest).map bs) ((k : Int) + 1) = some (t6 (parseL w0 rest ((List.range 12).drop k)))
  | 0, k, K, hk, hK => by
    obtain rfl : k = 12 := by omega
    unfold assartref30_Parse.l0
    rfl
  | e + 1, k, K, hk, hK => by
    have hk12 : k < 12 := by omega
    rw [parseL_next w0 rest k hk12, show K + 5 * (e + 1) + 1 = (K + 5 * e + 5) + 1 by omega]
    unfold assartref30_Parse.l0
    have e0 : rdOf ByteArray.empty ((w0 :: rest).map bs) 0 = bs w0 := rfl
    have e9 : wrap64 ((k : Int) + 1 + 1) = ((k + 1 : Nat) : Int) + 1 := by rw [w64 (by omega) (by omega)]; omega
    have hnext : ∀ J, 100 ≤ J → assartref30_Parse.j1 (J + 5 * e + 1 + 1) ((w0 :: rest).map bs) ((k : Int) + 1) ((pt k).map fun (p : Nat) => (p : Int) + 1) true = some (t6 (parseL w0 rest ((List.range 12).drop (k + 1)))) := by
      intro J hJ
      unfold assartref30_Parse.j1
      rw [if_pos rfl, e9]
      exact l0_run w0 rest hr e (k + 1) J (by omega) hJ
    rw [if_pos (by omega), form_f k hk12, Option.bind_some, if_pos (by rw [List.length_map, List.length_cons]; omega), e0, bs_list, bs_list]
    by_cases hw : wd k = w0
    · rw [if_pos hw.symm]
      have hp2 := pt_len k
      by_cases hl : rest.length = (pt k).length
      · have b : ((((w0 :: rest).map bs).length : Int) != wrap64 ((((pt k).map fun (p : Nat) => (p : Int) + 1).length : Int) + 1)) = false := by
          rw [List.length_map, List.length_map, List.length_cons, w64 (by omega) (by omega), bne_eq_false_iff_eq]
          omega
        rw [b, show K + 5 * e + 5 = (K + 5 * e + 4) + 1 by omega]
        unfold assartref30_Parse.j1
        have hrun := l1_run w0 rest ((k : Int) + 1) (pt k) (pt_lt k) hl hp2 (pt k).length 0 ((K + 2 - (pt k).length) + 5 * e + 1) ((k : Int) + 1) 0 0 0 0 true (by omega) (by omega)
        rw [show (K + 2 - (pt k).length) + 5 * e + 1 + (pt k).length + 1 = K + 5 * e + 4 by omega] at hrun
        rw [if_neg (by decide)]
        refine hrun.trans ?_
        rw [List.drop_zero, List.drop_zero, e9, l0_run w0 rest hr e (k + 1) (K + 2 - (pt k).length) (by omega) (by omega)]
        have hf : readF ((k : Int) + 1) (pt k) rest = rdF (pt k) rest [(k : Int) + 1, 0, 0, 0, 0] := if_pos hl
        rw [hf]
        by_cases h : (rdF (pt k) rest [(k : Int) + 1, 0, 0, 0, 0]).2 = true
        · rw [if_pos ⟨rfl, h⟩, if_pos ⟨hw, h⟩]
        · rw [if_neg (fun h' => h h'.2), if_neg (fun h' => h h'.2)]
      · have b : ((((w0 :: rest).map bs).length : Int) != wrap64 ((((pt k).map fun (p : Nat) => (p : Int) + 1).length : Int) + 1)) = true := by
          rw [List.length_map, List.length_map, List.length_cons, w64 (by omega) (by omega), bne_iff_ne]
          omega
        rw [b, show K + 5 * e + 5 = (K + 3) + 5 * e + 1 + 1 by omega, hnext (K + 3) (by omega), if_neg (fun h => by rw [show readF ((k : Int) + 1) (pt k) rest = (zero5, false) from if_neg hl] at h; cases h.2)]
    · rw [if_neg (fun h => hw h.symm), show K + 5 * e + 5 = (K + 3) + 5 * e + 1 + 1 by omega, hnext (K + 3) (by omega), if_neg (fun h => hw h.1)]
theorem refparse_f (l : List UInt8) (hl : l.length ≤ 2000000) : assartref30_Parse.f (l.length + 200 + 5 * 12 + 1) (bs l) = some (t6 (parseT l)) := by
  obtain ⟨w0, rest, hf⟩ := flds_cons l
  have h1 := upTo (f := fun k => assartref30_Fields.f k (bs l)) (fun k => assartref30_Fields.mono _ k) (by omega : l.length + 3 ≤ l.length + 200 + 5 * 12 + 1) (refflds_f l hl)
  unfold assartref30_Parse.f
  have hr : rest.length ≤ 3000000 := by
    have h1 := flds_len l
    have h2 := List.count_le_length (a := (32 : UInt8)) (l := l)
    rw [hf, List.length_cons] at h1
    omega
  have h2 := l0_run w0 rest hr 12 0 (l.length + 200) rfl (by omega)
  have h3 : parseT l = parseL w0 rest ((List.range 12).drop 0) := by unfold parseT; rw [hf]; rfl
  refine (congrArg (fun o => o.bind fun t => assartref30_Parse.l0 (l.length + 200 + 5 * 12 + 1) t 1) h1).trans ?_
  rw [Option.bind_some, hf, h3]
  exact h2
theorem refparse_calls (l : List UInt8) (a b c d e f : Int) (w : World) (hl : l.length ≤ 2000000) (h : parseT l = ([a, b, c, d, e], f)) : Calls Tryd.prog 32 #[.string (bs l)] w fun z w' => z = .returned (.tuple #[.agg #[.int .i64 a, .int .i64 b, .int .i64 c, .int .i64 d, .int .i64 e], .int .i64 f]) ∧ Below w.heap.size w w' :=
  assartref30_Parse.calls _ (bs l) a b c d e f w (by rw [refparse_f l hl, h]; rfl)
end Go.Proofs.YtdaagoagfenadaaDoor.X
namespace Go.Proofs.YtdaagoagfenadaaDoor.X
open Go.RowKit Go.Proofs.YtdaagoagfenadaaDoor.YAll Go.Proofs.YtdaagoagfenadaaDoorW.PrintWords Go.Proofs.YtdaagoagfenadaaDoorW.PrintLast Go.Proofs.YtdaagoagfenadaaDoorW.PrintMore
set_option linter.unusedVariables false
set_option linter.unusedSimpArgs false
/-- A row of part numbers, one more each. -/
def LsAt (w : World) (A : Option Addr) (ps : List Nat) : Prop := ps ≠ [] → ∃ g cells, A = some ⟨g, 0, none⟩ ∧ w.heap[g]? = some (.cells cells 3) ∧ ∀ (i p : Nat), ps[i]? = some p → cells[i]? = some (.int .i64 ((p : Int) + 1))
theorem LsAt.addr {w : World} {A : Option Addr} {ps : List Nat} (h : LsAt w A ps) (hn : ps ≠ []) : ∃ g, A = some ⟨g, 0, none⟩ := by
  obtain ⟨g, _, h1, _⟩ := h hn
  exact ⟨g, h1⟩
theorem LsAt.cell {w : World} {g : Nat} {ps : List Nat} (h : LsAt w (some ⟨g, 0, none⟩) ps) (i p : Nat) (hp : ps[i]? = some p) : w.cell? ⟨g, i, none⟩ = some (.int .i64 ((p : Int) + 1)) := by
  obtain ⟨b, cells, h1, h2, h3⟩ := h (by intro e; rw [e] at hp; cases hp)
  injection h1 with h1
  injection h1 with h1
  subst h1
  rw [blk_cell h2]
  exact h3 i p hp
theorem LsAt.below {w w' : World} {A : Option Addr} {ps : List Nat} (h : LsAt w A ps) (hb : Below w.heap.size w w') : LsAt w' A ps := fun hn => by
  obtain ⟨g, cells, h1, h2, h3⟩ := h hn
  exact ⟨g, cells, h1, blk_below h2 hb, h3⟩
theorem LsAt.set {w : World} {A : Option Addr} {ps : List Nat} {g : Nat} {t : TypeId} {cs : Array Value} (h : LsAt w A ps) (hg : w.heap[g]? = some (.cells cs t)) (ht : t ≠ 3) (i : Nat) (u : Value) : LsAt (w.setCell ⟨g, i, none⟩ u) A ps := fun hn => by
  obtain ⟨b, cells, rfl, h2, h3⟩ := h hn
  refine ⟨b, cells, rfl, blk_far h2 ?_ u, h3⟩
  rintro rfl
  rw [hg] at h2
  injection h2 with h2
  injection h2 with _ h2
  exact ht h2
theorem LsAt.set5 {w : World} {A : Option Addr} {ps : List Nat} {g : Nat} {c : List Int} (h : LsAt w A ps) (hg : CallAt w g c) (y0 y1 y2 y3 y4 : Value) : LsAt (((((w.setCell ⟨g, 0, none⟩ y0).setCell ⟨g, 1, none⟩ y1).setCell ⟨g, 2, none⟩ y2).setCell ⟨g, 3, none⟩ y3).setCell ⟨g, 4, none⟩ y4) A ps := by
  have k0 := blk_set hg 0 y0
  have k1 := blk_set k0 1 y1
  have k2 := blk_set k1 2 y2
  have k3 := blk_set k2 3 y3
  exact LsAt.set (LsAt.set (LsAt.set (LsAt.set (LsAt.set h hg (by decide) 0 y0) k0 (by decide) 1 y1) k1 (by decide) 2 y2) k2 (by decide) 3 y3) k3 (by decide) 4 y4
theorem CallAt.far5 {w : World} {b g : Nat} {c : List Int} (h : CallAt w b c) (hn : b ≠ g) (y0 y1 y2 y3 y4 : Value) : CallAt (((((w.setCell ⟨g, 0, none⟩ y0).setCell ⟨g, 1, none⟩ y1).setCell ⟨g, 2, none⟩ y2).setCell ⟨g, 3, none⟩ y3).setCell ⟨g, 4, none⟩ y4) b c :=
  ((((h.far 0 y0 hn).far 1 y1 hn).far 2 y2 hn).far 3 y3 hn).far 4 y4 hn
theorem refform_calls (kd : Int) (W : List UInt8) (ps : List Nat) (w : World) (h : assartref30_form.f kd = some (bs W, ps.map fun (p : Nat) => (p : Int) + 1)) :
    Calls Tryd.prog 41 #[.int .i64 kd] w fun e w' => ∃ A cap, e = .returned (.tuple #[.string (bs W), .slice A ps.length cap]) ∧ LsAt w' A ps ∧ Below w.heap.size w w' :=
  (assartref30_form.calls kd _ _ w h).mono fun e w' ⟨v, he, hR, hB⟩ => by
    obtain ⟨A, cap, hv, _, hC⟩ := Kd.R_reads hR
    subst hv
    rw [List.length_map] at he
    refine ⟨A, cap, he, fun hn => ?_, hB⟩
    obtain ⟨g, cap2, hv, _, _, cells, hcl⟩ := Kd.R_form hR (by rw [List.length_map]; exact List.length_pos_iff.2 hn)
    injection hv with h1 h2 h3
    subst h1
    refine ⟨g, cells, rfl, hcl, fun i p hp => ?_⟩
    obtain ⟨_, _, hD⟩ := hC
    obtain ⟨a, ha, hcell⟩ := hD (by rw [List.length_map]; exact List.length_pos_iff.2 hn)
    obtain rfl := Option.some.inj ha
    obtain ⟨cs, h1, h2, h3⟩ := hcell i ((p : Int) + 1) (by rw [List.getElem?_map, hp]; rfl)
    have hk : cs = [.int .i64 ((p : Int) + 1)] := h2
    subst hk
    have := h3 0 _ rfl
    rw [Addr.add_lit, show (0 : Nat) + (i * (Kd.int .i64).sz + 0) = i by rw [show (Kd.int .i64).sz = 1 from rfl]; omega, blk_cell hcl] at this
    exact this
def txtC (W : List UInt8) (c : List Int) (ps : List Nat) : List UInt8 := W ++ ps.flatMap fun p => 32 :: numL (c.getD (p + 1) 0)
theorem txtC_next (W : List UInt8) (c : List Int) (ps : List Nat) (i : Nat) (h : i < ps.length) : txtC W c (ps.take (i + 1)) = txtC W c (ps.take i) ++ [32] ++ numL (c.getD (ps[i] + 1) 0) := by
  unfold txtC
  rw [take_next ps i h, List.flatMap_append]
  simp
theorem txtC_len (W : List UInt8) (c : List Int) (hc : ∀ x ∈ c, In64 x) : ∀ ps : List Nat, (txtC W c ps).length ≤ W.length + 21 * ps.length := by
  intro ps
  unfold txtC
  rw [List.length_append]
  induction ps with
  | nil => simp
  | cons p ps ih =>
    rw [List.flatMap_cons, List.length_append, List.length_cons, List.length_cons]
    have := numL_len (c.getD (p + 1) 0) (getD_in c hc _)
    omega
set_option maxRecDepth 100000 in
set_option maxHeartbeats 20000000 in
theorem refcall_gen (kd a s al v : Int) (W : List UInt8) (ps : List Nat) (w : World) (hc : ∀ x ∈ [kd, a, s, al, v], In64 x) (hf : assartref30_form.f kd = some (bs W, ps.map fun (p : Nat) => (p : Int) + 1)) (hp4 : ∀ p ∈ ps, p < 4) (hp2 : ps.length ≤ 2) (hW : W.length ≤ 10) (z : List UInt8 × Int)
    (hz : z = if txtC W [kd, a, s, al, v] ps = [] ∨ plainC [kd, a, s, al, v] ps ≠ [kd, a, s, al, v] then ([], 2) else (txtC W [kd, a, s, al, v] ps, 0)) :
    Calls Tryd.prog 26 #[.agg #[.int .i64 kd, .int .i64 a, .int .i64 s, .int .i64 al, .int .i64 v]] w fun e w' => e = .returned (.tuple #[.string (bs z.1), .int .i64 z.2]) ∧ Below w.heap.size w w' := by
  have HC := Aside0.mk hc
  have HF := Aside0.mk hf
  have HP4 := Aside0.mk hp4
  have HP2 := Aside0.mk hp2
  have HWL := Aside0.mk hW
  have HZ := Aside0.mk hz
  clear hc hf hp4 hp2 hW hz
  go_enter Tryd.func26, Tryd.ntmps26
  have BX : CallAt (w.alloc (Obj.cells #[.int .i64 kd, .int .i64 a, .int .i64 s, .int .i64 al, .int .i64 v] 23)) w.heap.size [kd, a, s, al, v] := blk_new w _
  have BB := ballo (Below.refl w.heap.size w) (Obj.cells #[.int .i64 kd, .int .i64 a, .int .i64 s, .int .i64 al, .int .i64 v] 23)
  go_upto_region 1 with fail
  generalize hw1 : w.alloc (Obj.cells #[.int .i64 kd, .int .i64 a, .int .i64 s, .int .i64 al, .int .i64 v] 23) = w1 at *
  have HL1 : Aside0 (w1.heap.size = w.heap.size + 1) := ⟨by rw [← hw1]; exact size_al _ _⟩
  clear hw1
  obtain ⟨b0, b1, b2, b3, b4⟩ := BX.five
  have HQ := Aside0.mk BX
  have HB0 := Aside0.mk BB
  clear BX BB
  go_wp2_with (go_at_call 41; (with_reducible refine (refform_calls kd W ps _ HF.out).mono ?_); rintro e w2 ⟨A, cap, rfl, hLs, hB2⟩; have HLs := Aside0.mk hLs; have HB2 := Aside0.mk hB2; obtain ⟨d0, d1, d2, d3, d4⟩ := (HQ.out.below hB2).five; clear hLs hB2)
  have HA3 : Aside0 (CallAt (w2.alloc (Obj.cells #[.int .i64 kd, .int .i64 0, .int .i64 0, .int .i64 0, .int .i64 0] 23)) w.heap.size [kd, a, s, al, v]) := ⟨(HQ.out.below HB2.out).alloc _⟩
  have HQ3 : Aside0 (CallAt (w2.alloc (Obj.cells #[.int .i64 kd, .int .i64 0, .int .i64 0, .int .i64 0, .int .i64 0] 23)) w2.heap.size (plainC [kd, a, s, al, v] [])) := ⟨blk_new w2 _⟩
  have HL3 : Aside0 (LsAt (w2.alloc (Obj.cells #[.int .i64 kd, .int .i64 0, .int .i64 0, .int .i64 0, .int .i64 0] 23)) A ps) := ⟨HLs.out.below (ballo (Below.refl _ _) _)⟩
  have HB3 : Aside0 (Below w.heap.size w (w2.alloc (Obj.cells #[.int .i64 kd, .int .i64 0, .int .i64 0, .int .i64 0, .int .i64 0] 23))) := ⟨ballo (bthen HB0.out HB2.out) _⟩
  have HN3 : Aside0 (w.heap.size < w2.heap.size) := ⟨by have h1 := HL1.out; have h2 := HB2.out.size; omega⟩
  generalize w2.alloc (Obj.cells #[.int .i64 kd, .int .i64 0, .int .i64 0, .int .i64 0, .int .i64 0] 23) = w3 at *
  generalize w2.heap.size = q at *
  clear HQ HB0 HB2 HLs b0 b1 b2 b3 b4 d0 d1 d2 d3 d4 HL1
  have hn0 : (0 : Int) ≤ (ps.length : Int) := by omega
  have hT0 : bs W = bs (txtC W [kd, a, s, al, v] []) := by unfold txtC; rw [List.flatMap_nil, List.append_nil]
  obtain ⟨B0, hB0⟩ : ∃ B0, bs W = B0 := ⟨_, rfl⟩
  rw [hB0]
  have HB0B := Aside0.mk (hB0.symm.trans hT0)
  clear hT0 hB0
  go_loopg [4, 7] ps.length (fun kq v4 v7 w' => ∃ (i : Int), v7 = .int .i64 i ∧ 0 ≤ i ∧ i + (kq : Int) = (ps.length : Int) ∧ v4 = .string (bs (txtC W [kd, a, s, al, v] (ps.take i.toNat))) ∧ Aside0 (CallAt w' w.heap.size [kd, a, s, al, v]) ∧ Aside0 (CallAt w' q (plainC [kd, a, s, al, v] (ps.take i.toNat))) ∧ Aside0 (LsAt w' A ps) ∧ Aside0 (Below w.heap.size w w'))
  case atStart => exact ⟨0, rfl, Int.le_refl _, by omega, by rw [HB0B.out]; rfl, HA3, HQ3, HL3, HB3⟩
  case round =>
    obtain ⟨i, rfl, hi0, hi, rfl, HA, HQ, HL, HB⟩ := hrel
    clear HA3 HQ3 HL3 HB3
    cases gk with
    | zero =>
      have hlt : decide (i < (ps.length : Int)) = false := decide_eq_false (by omega)
      have et : ps.take i.toNat = ps := List.take_of_length_le (by omega)
      rw [et] at HQ
      rw [et]
      obtain ⟨y0, y1, y2, y3, y4, hy⟩ := list5 _ (plainC_len [kd, a, s, al, v] ps)
      have HQ2 := HQ.out
      rw [hy] at HQ2
      obtain ⟨q0, q1, q2, q3, q4⟩ := HQ2.five
      obtain ⟨a0, a1, a2, a3, a4⟩ := HA.out.five
      have HY := Aside0.mk hy
      clear hy HQ2
      obtain ⟨T, hT⟩ : ∃ T, txtC W [kd, a, s, al, v] ps = T := ⟨_, rfl⟩
      rw [hT]
      have HT := Aside0.mk hT
      clear hT
      by_cases h0 : T = []
      · subst h0
        have hem : (bs []).toList = [] := bs_list []
        go_wp2_with fail
        go_ret2
        refine ⟨?_, HB.out⟩
        rw [HZ.out, if_pos (.inl HT.out)]
        rfl
      · have H0 := Aside0.mk h0
        have hem : ((bs T).toList = []) = False := eq_false (by rw [bs_list]; exact h0)
        have hem2 : (bs T).toList.isEmpty = false := by rw [bs_list]; simpa using h0
        clear h0
        go_wp2_with fail
        all_goals
          go_ret2
          refine ⟨?_, HB.out⟩
          first
            | (rw [HZ.out, if_pos (Or.inr (fun e => by
                have e2 := HY.out.symm.trans e
                simp only [List.cons.injEq, and_true] at e2
                obtain ⟨e0, e1, e2, e3, e4⟩ := e2
                contradiction))]
               rfl)
            | (rw [HZ.out, HT.out, if_neg (fun h => h.elim H0.out (fun h2 => h2 (by rw [HY.out]; simp [*])))]
               rfl)
    | succ gk =>
      have hlt : decide (i < (ps.length : Int)) = true := decide_eq_true (by omega)
      have hlt2 : i < (ps.length : Int) := by omega
      have hin : i.toNat < ps.length := by omega
      obtain ⟨g, rfl⟩ := HL.out.addr (by intro e; rw [e] at hin; cases hin)
      obtain ⟨p, hp⟩ : ∃ p, ps[i.toNat] = p := ⟨_, rfl⟩
      have hp4 : p < 4 := by rw [← hp]; exact HP4.out _ (List.getElem_mem _)
      have hpi : ps[i.toNat]? = some p := by rw [List.getElem?_eq_getElem hin, hp]
      obtain ⟨x, hx⟩ : ∃ x, ([kd, a, s, al, v] : List Int).getD (p + 1) 0 = x := ⟨_, rfl⟩
      have hxI : In64 x := by rw [← hx]; exact getD_in _ HC.out _
      have hat : assartref30_at.f kd a s al v ((p : Int) + 1) = some x := by rw [at_f p hp4, hx]
      obtain ⟨y0, y1, y2, y3, y4, hy⟩ := list5 _ (plainC_len [kd, a, s, al, v] (ps.take i.toNat))
      obtain ⟨u0, u1, u2, u3, u4, hu, hwf⟩ := with_f p hp4 y0 y1 y2 y3 y4 x
      have HQ2 := HQ.out
      rw [hy] at HQ2
      obtain ⟨q0, q1, q2, q3, q4⟩ := HQ2.five
      obtain ⟨a0, a1, a2, a3, a4⟩ := HA.out.five
      have ce := HL.out.cell i.toNat p hpi
      obtain ⟨T, hT⟩ : ∃ T, txtC W [kd, a, s, al, v] (ps.take i.toNat) = T := ⟨_, rfl⟩
      have hTl : T.length ≤ 100 := by
        have h1 := txtC_len W [kd, a, s, al, v] HC.out (ps.take i.toNat)
        have h2 := HWL.out
        have h3 := HP2.out
        rw [List.length_take] at h1
        rw [← hT]
        omega
      rw [hT]
      have HXX := Aside0.mk (And.intro hp (And.intro hp4 (And.intro hpi (And.intro hx (And.intro hxI (And.intro hat (And.intro hy (And.intro hu (And.intro hwf (And.intro hT hTl))))))))))
      have HQY := Aside0.mk HQ2
      clear hp hp4 hpi hx hxI hat hy hu hwf hT hTl HQ2
      go_upto_region 6 with fail
      go_cut [34] (fun s34 wx => Aside0 (CallAt wx q [u0, u1, u2, u3, u4]) ∧ Aside0 (CallAt wx w.heap.size [kd, a, s, al, v]) ∧ Aside0 (LsAt wx (some ⟨g, 0, none⟩) ps) ∧ Aside0 (Below w.heap.size w wx))
      case first =>
        have KS : Aside0 (∀ w', Below wr.heap.size wr w' → (fun w' => w'.cell? ⟨w.heap.size, 0, none⟩ = some (.int .i64 kd) ∧ w'.cell? ⟨w.heap.size, 1, none⟩ = some (.int .i64 a) ∧ w'.cell? ⟨w.heap.size, 2, none⟩ = some (.int .i64 s) ∧ w'.cell? ⟨w.heap.size, 3, none⟩ = some (.int .i64 al) ∧ w'.cell? ⟨w.heap.size, 4, none⟩ = some (.int .i64 v) ∧ w'.cell? ⟨g, i.toNat, none⟩ = some (.int .i64 ((p : Int) + 1))) w') := ⟨fun w' hb => ⟨pw_cell_below hb a0, pw_cell_below hb a1, pw_cell_below hb a2, pw_cell_below hb a3, pw_cell_below hb a4, pw_cell_below hb ce⟩⟩
        have HBW := Aside0.mk (below_drew (Below.refl wr.heap.size wr))
        obtain ⟨e0, e1, e2, e3, e4⟩ := (HQY.out.below HBW.out).five
        have KSET : ∀ w', Below wr.heap.size wr w' → (fun w' => w'.cell? ⟨w.heap.size, 0, none⟩ = some (.int .i64 kd) ∧ w'.cell? ⟨w.heap.size, 1, none⟩ = some (.int .i64 a) ∧ w'.cell? ⟨w.heap.size, 2, none⟩ = some (.int .i64 s) ∧ w'.cell? ⟨w.heap.size, 3, none⟩ = some (.int .i64 al) ∧ w'.cell? ⟨w.heap.size, 4, none⟩ = some (.int .i64 v) ∧ w'.cell? ⟨g, i.toNat, none⟩ = some (.int .i64 ((p : Int) + 1))) (((((w'.setCell ⟨q, 0, none⟩ (.int .i64 u0)).setCell ⟨q, 1, none⟩ (.int .i64 u1)).setCell ⟨q, 2, none⟩ (.int .i64 u2)).setCell ⟨q, 3, none⟩ (.int .i64 u3)).setCell ⟨q, 4, none⟩ (.int .i64 u4)) := fun w' hb => by
          obtain ⟨g0, g1, g2, g3, g4⟩ := ((HA.out.below hb).far5 (Nat.ne_of_lt HN3.out) (.int .i64 u0) (.int .i64 u1) (.int .i64 u2) (.int .i64 u3) (.int .i64 u4)).five
          exact ⟨g0, g1, g2, g3, g4, ((HL.out.below hb).set5 (HQY.out.below hb) (.int .i64 u0) (.int .i64 u1) (.int .i64 u2) (.int .i64 u3) (.int .i64 u4)).cell i.toNat p HXX.out.2.2.1⟩
        have KSET := Aside0.mk KSET
        clear q0 q1 q2 q3 q4 a0 a1 a2 a3 a4 ce
        refine wp_region_held_drew (S := fun w' => w'.cell? ⟨w.heap.size, 0, none⟩ = some (.int .i64 kd) ∧ w'.cell? ⟨w.heap.size, 1, none⟩ = some (.int .i64 a) ∧ w'.cell? ⟨w.heap.size, 2, none⟩ = some (.int .i64 s) ∧ w'.cell? ⟨w.heap.size, 3, none⟩ = some (.int .i64 al) ∧ w'.cell? ⟨w.heap.size, 4, none⟩ = some (.int .i64 v) ∧ w'.cell? ⟨g, i.toNat, none⟩ = some (.int .i64 ((p : Int) + 1))) (by kernel_rfl) (by first | exact (KS.out _ HBW.out) | (dsimp only; exact (KS.out _ HBW.out))) (fun hS => ?_)
        refine wpAnyH_take (i := 1) (v := ?_) rfl (by kernel_rfl) (by kernel_rfl) (by kernel_rfl) (fun _ _ _ h => h) (Or.inl ⟨by rfl, ?_⟩) hS ?_
        rotate_left
        · intro wS hW; (try dsimp only at hW); obtain ⟨W0, W1, W2, W3, W4, W5⟩ := hW; go_simp; (try with_reducible rfl)
        try simp only [List.getElem_toArray, List.getElem_cons_zero, List.getElem_cons_succ, Act.put, List.setIfInBounds_toArray, List.set_cons_zero, List.set_cons_succ]
        refine wpAnyH_take (i := 2) (v := ?_) rfl (by kernel_rfl) (by kernel_rfl) (by kernel_rfl) (fun _ _ _ h => h) (Or.inl ⟨by rfl, ?_⟩) hS ?_
        rotate_left
        · intro wS hW; (try dsimp only at hW); obtain ⟨W0, W1, W2, W3, W4, W5⟩ := hW; go_simp; (try with_reducible rfl)
        try simp only [List.getElem_toArray, List.getElem_cons_zero, List.getElem_cons_succ, Act.put, List.setIfInBounds_toArray, List.set_cons_zero, List.set_cons_succ]
        refine wpAnyH_take (i := 3) (v := ?_) rfl (by kernel_rfl) (by kernel_rfl) (by kernel_rfl) (fun _ _ _ h => h) (Or.inl ⟨by rfl, ?_⟩) hS ?_
        rotate_left
        · intro wS hW; (try dsimp only at hW); obtain ⟨W0, W1, W2, W3, W4, W5⟩ := hW; go_simp; (try with_reducible rfl)
        try simp only [List.getElem_toArray, List.getElem_cons_zero, List.getElem_cons_succ, Act.put, List.setIfInBounds_toArray, List.set_cons_zero, List.set_cons_succ]
        refine wpAnyH_take (i := 4) (v := ?_) rfl (by kernel_rfl) (by kernel_rfl) (by kernel_rfl) (fun _ _ _ h => h) (Or.inl ⟨by rfl, ?_⟩) hS ?_
        rotate_left
        · intro wS hW; (try dsimp only at hW); obtain ⟨W0, W1, W2, W3, W4, W5⟩ := hW; go_simp; (try with_reducible rfl)
        try simp only [List.getElem_toArray, List.getElem_cons_zero, List.getElem_cons_succ, Act.put, List.setIfInBounds_toArray, List.set_cons_zero, List.set_cons_succ]
        refine wpAnyH_take (i := 5) (v := ?_) rfl (by kernel_rfl) (by kernel_rfl) (by kernel_rfl) (fun _ _ _ h => h) (Or.inl ⟨by rfl, ?_⟩) hS ?_
        rotate_left
        · intro wS hW; (try dsimp only at hW); obtain ⟨W0, W1, W2, W3, W4, W5⟩ := hW; go_simp; (try with_reducible rfl)
        try simp only [List.getElem_toArray, List.getElem_cons_zero, List.getElem_cons_succ, Act.put, List.setIfInBounds_toArray, List.set_cons_zero, List.set_cons_succ]
        refine wpAnyH_take (i := 6) (v := ?_) rfl (by kernel_rfl) (by kernel_rfl) (by kernel_rfl) (fun _ _ _ h => h) (Or.inl ⟨by rfl, ?_⟩) hS ?_
        rotate_left
        · intro wS hW; (try dsimp only at hW); obtain ⟨W0, W1, W2, W3, W4, W5⟩ := hW; go_simp; (try with_reducible rfl)
        try simp only [List.getElem_toArray, List.getElem_cons_zero, List.getElem_cons_succ, Act.put, List.setIfInBounds_toArray, List.set_cons_zero, List.set_cons_succ]
        refine wpAnyH_take (i := 7) (v := ?_) rfl (by kernel_rfl) (by kernel_rfl) (by kernel_rfl) (fun _ _ _ h => h) (Or.inl ⟨by rfl, ?_⟩) hS ?_
        rotate_left
        · intro wS hW; (try dsimp only at hW); obtain ⟨W0, W1, W2, W3, W4, W5⟩ := hW; go_simp; (try with_reducible rfl)
        try simp only [List.getElem_toArray, List.getElem_cons_zero, List.getElem_cons_succ, Act.put, List.setIfInBounds_toArray, List.set_cons_zero, List.set_cons_succ]
        refine wpAnyH_take (i := 8) (v := ?_) rfl (by kernel_rfl) (by kernel_rfl) (by kernel_rfl) (fun _ _ _ h => h) (Or.inl ⟨by rfl, ?_⟩) hS ?_
        rotate_left
        · intro wS hW; (try dsimp only at hW); obtain ⟨W0, W1, W2, W3, W4, W5⟩ := hW; go_simp; (try with_reducible rfl)
        try simp only [List.getElem_toArray, List.getElem_cons_zero, List.getElem_cons_succ, Act.put, List.setIfInBounds_toArray, List.set_cons_zero, List.set_cons_succ]
        refine wpAnyH_take (i := 9) (v := ?_) rfl (by kernel_rfl) (by kernel_rfl) (by kernel_rfl) (fun _ _ _ h => h) (Or.inl ⟨by rfl, ?_⟩) hS ?_
        rotate_left
        · intro wS hW; (try dsimp only at hW); obtain ⟨W0, W1, W2, W3, W4, W5⟩ := hW; go_simp; (try with_reducible rfl)
        try simp only [List.getElem_toArray, List.getElem_cons_zero, List.getElem_cons_succ, Act.put, List.setIfInBounds_toArray, List.set_cons_zero, List.set_cons_succ]
        refine wpAnyH_ready (rs := [0, 10]) (by kernel_rfl) (by simp) ?_
        refine AllReadyH.cons rfl (fun K hK => ?_) (AllReadyH.cons rfl (fun K hK => ?_) AllReadyH.nil)
        · try simp only [List.getElem_toArray, List.getElem_cons_zero, List.getElem_cons_succ, Act.put, List.setIfInBounds_toArray, List.set_cons_zero, List.set_cons_succ]
          go_simp
          refine hK.out _ _ (by first | exact (KS.out _ HBW.out) | (dsimp only; exact (KS.out _ HBW.out))) (fun hS2 => ?_)
          clear hS hK K
          have hS := hS2
          clear hS2
          try simp only [List.getElem_toArray, List.getElem_cons_zero, List.getElem_cons_succ, Act.put, List.setIfInBounds_toArray, List.set_cons_zero, List.set_cons_succ]
          refine wpAnyH_ready (rs := [10]) (by kernel_rfl) (by simp) ?_
          refine AllReadyH.cons rfl (fun K hK => ?_) AllReadyH.nil
          try simp only [List.getElem_toArray, List.getElem_cons_zero, List.getElem_cons_succ, Act.put, List.setIfInBounds_toArray, List.set_cons_zero, List.set_cons_succ]
          go_simp
          refine (assartref30_at.calls kd a s al v ((p : Int) + 1) x _ HXX.out.2.2.2.2.2.1).mono ?_
          rintro e w8 ⟨rfl, hB8⟩
          have hX := Aside0.mk (bthen HBW.out hB8)
          refine hK.out _ _ (by first | exact (KS.out _ hX.out) | (dsimp only; exact (KS.out _ hX.out))) (fun hS2 => ?_)
          clear hS hK K
          have hS := hS2
          clear hS2
          try simp only [List.getElem_toArray, List.getElem_cons_zero, List.getElem_cons_succ, Act.put, List.setIfInBounds_toArray, List.set_cons_zero, List.set_cons_succ]
          refine wpAnyH_ready (rs := [11]) (by kernel_rfl) (by simp) ?_
          refine AllReadyH.cons rfl (fun K hK => ?_) AllReadyH.nil
          try simp only [List.getElem_toArray, List.getElem_cons_zero, List.getElem_cons_succ, Act.put, List.setIfInBounds_toArray, List.set_cons_zero, List.set_cons_succ]
          go_simp
          refine (assartref30_with.calls y0 y1 y2 y3 y4 ((p : Int) + 1) x u0 u1 u2 u3 u4 _ HXX.out.2.2.2.2.2.2.2.2.1).mono ?_
          rintro e w9 ⟨rfl, hB9⟩
          have hY := Aside0.mk (bthen hX.out hB9)
          have HQ9 := Aside0.mk (HQY.out.below hY.out)
          obtain ⟨r0, r1, r2, r3, r4⟩ := HQ9.out.five
          have rf := HQ9.out.frozen
          have HS9 := Aside0.mk (KSET.out _ hY.out)
          refine hK.out _ _ (by first | exact (KS.out _ hY.out) | (dsimp only; exact (KS.out _ hY.out))) (fun hS2 => ?_)
          clear hS hK K
          have hS := hS2
          clear hS2
          try simp only [List.getElem_toArray, List.getElem_cons_zero, List.getElem_cons_succ, Act.put, List.setIfInBounds_toArray, List.set_cons_zero, List.set_cons_succ]
          refine wpAnyH_ready (rs := [12]) (by kernel_rfl) (by simp) ?_
          refine AllReadyH.cons rfl (fun K hK => ?_) AllReadyH.nil
          try simp only [List.getElem_toArray, List.getElem_cons_zero, List.getElem_cons_succ, Act.put, List.setIfInBounds_toArray, List.set_cons_zero, List.set_cons_succ]
          go_simp
          refine hK.out _ _ (by first | exact HS9.out | (dsimp only; exact HS9.out)) (fun hS2 => ?_)
          clear hS hK K
          have hS := hS2
          clear hS2
          try simp only [List.getElem_toArray, List.getElem_cons_zero, List.getElem_cons_succ, Act.put, List.setIfInBounds_toArray, List.set_cons_zero, List.set_cons_succ]
          refine wpAnyH_done (by kernel_rfl) ?_ _
          clear hS
          go_wp2_with fail
          go_meet
          exact ⟨⟨HQ9.out.set5 rfl u0 u1 u2 u3 u4⟩, ⟨(HA.out.below hY.out).far5 (Nat.ne_of_lt HN3.out) _ _ _ _ _⟩, ⟨(HL.out.below hY.out).set5 HQ9.out _ _ _ _ _⟩, ⟨below5 (bthen HB.out hY.out) (Nat.le_of_lt HN3.out) _ _ _ _ _⟩⟩
        · try simp only [List.getElem_toArray, List.getElem_cons_zero, List.getElem_cons_succ, Act.put, List.setIfInBounds_toArray, List.set_cons_zero, List.set_cons_succ]
          go_simp
          refine (assartref30_at.calls kd a s al v ((p : Int) + 1) x _ HXX.out.2.2.2.2.2.1).mono ?_
          rintro e w8 ⟨rfl, hB8⟩
          have hX := Aside0.mk (bthen HBW.out hB8)
          obtain ⟨r0, r1, r2, r3, r4⟩ := (HQY.out.below hX.out).five
          refine hK.out _ _ (by first | exact (KS.out _ hX.out) | (dsimp only; exact (KS.out _ hX.out))) (fun hS2 => ?_)
          clear hS hK K
          have hS := hS2
          clear hS2
          try simp only [List.getElem_toArray, List.getElem_cons_zero, List.getElem_cons_succ, Act.put, List.setIfInBounds_toArray, List.set_cons_zero, List.set_cons_succ]
          refine wpAnyH_ready (rs := [0]) (by kernel_rfl) (by simp) ?_
          refine AllReadyH.cons rfl (fun K hK => ?_) AllReadyH.nil
          try simp only [List.getElem_toArray, List.getElem_cons_zero, List.getElem_cons_succ, Act.put, List.setIfInBounds_toArray, List.set_cons_zero, List.set_cons_succ]
          go_simp
          refine hK.out _ _ (by first | exact (KS.out _ hX.out) | (dsimp only; exact (KS.out _ hX.out))) (fun hS2 => ?_)
          clear hS hK K
          have hS := hS2
          clear hS2
          try simp only [List.getElem_toArray, List.getElem_cons_zero, List.getElem_cons_succ, Act.put, List.setIfInBounds_toArray, List.set_cons_zero, List.set_cons_succ]
          refine wpAnyH_ready (rs := [11]) (by kernel_rfl) (by simp) ?_
          refine AllReadyH.cons rfl (fun K hK => ?_) AllReadyH.nil
          try simp only [List.getElem_toArray, List.getElem_cons_zero, List.getElem_cons_succ, Act.put, List.setIfInBounds_toArray, List.set_cons_zero, List.set_cons_succ]
          go_simp
          refine (assartref30_with.calls y0 y1 y2 y3 y4 ((p : Int) + 1) x u0 u1 u2 u3 u4 _ HXX.out.2.2.2.2.2.2.2.2.1).mono ?_
          rintro e w9 ⟨rfl, hB9⟩
          have hY := Aside0.mk (bthen hX.out hB9)
          have HQ9 := Aside0.mk (HQY.out.below hY.out)
          obtain ⟨r0, r1, r2, r3, r4⟩ := HQ9.out.five
          have rf := HQ9.out.frozen
          have HS9 := Aside0.mk (KSET.out _ hY.out)
          refine hK.out _ _ (by first | exact (KS.out _ hY.out) | (dsimp only; exact (KS.out _ hY.out))) (fun hS2 => ?_)
          clear hS hK K
          have hS := hS2
          clear hS2
          try simp only [List.getElem_toArray, List.getElem_cons_zero, List.getElem_cons_succ, Act.put, List.setIfInBounds_toArray, List.set_cons_zero, List.set_cons_succ]
          refine wpAnyH_ready (rs := [12]) (by kernel_rfl) (by simp) ?_
          refine AllReadyH.cons rfl (fun K hK => ?_) AllReadyH.nil
          try simp only [List.getElem_toArray, List.getElem_cons_zero, List.getElem_cons_succ, Act.put, List.setIfInBounds_toArray, List.set_cons_zero, List.set_cons_succ]
          go_simp
          refine hK.out _ _ (by first | exact HS9.out | (dsimp only; exact HS9.out)) (fun hS2 => ?_)
          clear hS hK K
          have hS := hS2
          clear hS2
          try simp only [List.getElem_toArray, List.getElem_cons_zero, List.getElem_cons_succ, Act.put, List.setIfInBounds_toArray, List.set_cons_zero, List.set_cons_succ]
          refine wpAnyH_done (by kernel_rfl) ?_ _
          clear hS
          go_wp2_with fail
          go_meet
          exact ⟨⟨HQ9.out.set5 rfl u0 u1 u2 u3 u4⟩, ⟨(HA.out.below hY.out).far5 (Nat.ne_of_lt HN3.out) _ _ _ _ _⟩, ⟨(HL.out.below hY.out).set5 HQ9.out _ _ _ _ _⟩, ⟨below5 (bthen HB.out hY.out) (Nat.le_of_lt HN3.out) _ _ _ _ _⟩⟩
      case rest =>
        obtain ⟨x7, rfl⟩ : ∃ x : World, x = wc := ⟨_, rfl⟩
        obtain ⟨HQ7, HA7, HL7, HB7⟩ := hcut
        clear q0 q1 q2 q3 q4 a0 a1 a2 a3 a4 ce
        obtain ⟨a0, a1, a2, a3, a4⟩ := HA7.out.five
        have ce := HL7.out.cell i.toNat p HXX.out.2.2.1
        go_upto_region 7 with fail
        have KS : Aside0 (∀ w', Below x7.heap.size x7 w' → (fun w' => w'.cell? ⟨w.heap.size, 0, none⟩ = some (.int .i64 kd) ∧ w'.cell? ⟨w.heap.size, 1, none⟩ = some (.int .i64 a) ∧ w'.cell? ⟨w.heap.size, 2, none⟩ = some (.int .i64 s) ∧ w'.cell? ⟨w.heap.size, 3, none⟩ = some (.int .i64 al) ∧ w'.cell? ⟨w.heap.size, 4, none⟩ = some (.int .i64 v) ∧ w'.cell? ⟨g, i.toNat, none⟩ = some (.int .i64 ((p : Int) + 1))) w') := ⟨fun w' hb => ⟨pw_cell_below hb a0, pw_cell_below hb a1, pw_cell_below hb a2, pw_cell_below hb a3, pw_cell_below hb a4, pw_cell_below hb ce⟩⟩
        have HBW := Aside0.mk (below_drew (Below.refl x7.heap.size x7))
        have hsT := bs_size T
        have hTl := HXX.out.2.2.2.2.2.2.2.2.2.2
        have hnl := numL_len x HXX.out.2.2.2.2.1
        have hsz := bs_size (numL x)
        have f1 : (9223372036854775807 < T.length + 1) = False := eq_false (by omega)
        have f2 : (9223372036854775807 < T.length + 1 + (numL x).length) = False := eq_false (by omega)
        have f3 : decide (9223372036854775807 < T.length + 1) = false := decide_eq_false (by omega)
        have f4 : decide (9223372036854775807 < T.length + 1 + (numL x).length) = false := decide_eq_false (by omega)
        clear a0 a1 a2 a3 a4 ce hTl hnl
        go_region_held3 (fun w' => w'.cell? ⟨w.heap.size, 0, none⟩ = some (.int .i64 kd) ∧ w'.cell? ⟨w.heap.size, 1, none⟩ = some (.int .i64 a) ∧ w'.cell? ⟨w.heap.size, 2, none⟩ = some (.int .i64 s) ∧ w'.cell? ⟨w.heap.size, 3, none⟩ = some (.int .i64 al) ∧ w'.cell? ⟨w.heap.size, 4, none⟩ = some (.int .i64 v) ∧ w'.cell? ⟨g, i.toNat, none⟩ = some (.int .i64 ((p : Int) + 1)))
          (first | (with_reducible exact KS.out _ HBW.out) | (with_reducible exact KS.out _ hX.out) | (with_reducible exact KS.out _ hY.out))
          (first
            | (go_at_call 43; (with_reducible refine (assartref30_at.calls kd a s al v ((p : Int) + 1) x _ HXX.out.2.2.2.2.2.1).mono ?_); rintro e w8 ⟨rfl, hB8⟩; have hX := Aside0.mk (bthen HBW.out hB8))
            | (go_at_call 25; (with_reducible refine (refnum_calls x _ HXX.out.2.2.2.2.1).mono ?_); rintro e w9 ⟨rfl, hB9⟩; have hY := Aside0.mk (bthen hX.out hB9)))
        all_goals go_wp2_with fail
        go_roundg gk
        case measure => omega
        case rel =>
          have e1 : (i + 1).toNat = i.toNat + 1 := by omega
          have et := txtC_next W [kd, a, s, al, v] ps i.toNat hin
          have ep := plainC_next [kd, a, s, al, v] ps i.toNat hin
          obtain ⟨hp, hp4, hpi, hx, hxI, hat, hy, hu, hwf, hT, hTl⟩ := HXX.out
          rw [hp, hx, hT] at et
          rw [hp, hx, hy, hu] at ep
          refine ⟨i + 1, by first | rfl | rw [w64 (by omega) (by have := HP2.out; omega)], by omega, by omega, ?_, ⟨HA7.out.below hY.out⟩, ⟨?_⟩, ⟨HL7.out.below hY.out⟩, ⟨bthen HB7.out hY.out⟩⟩
          · rw [e1, et, ← bs_append, ← bs_append]
            rfl
          · rw [e1, ep]
            exact HQ7.out.below hY.out
end Go.Proofs.YtdaagoagfenadaaDoor.X
namespace Go.Proofs.YtdaagoagfenadaaDoor.X
open Go.RowKit Go.Proofs.YtdaagoagfenadaaDoor.YAll Go.Proofs.YtdaagoagfenadaaDoorW.PrintWords Go.Proofs.YtdaagoagfenadaaDoorW.PrintLast Go.Proofs.YtdaagoagfenadaaDoorW.PrintMore
set_option linter.unusedVariables false
set_option linter.unusedSimpArgs false
theorem jns_cons (sp : UInt8) (w : List UInt8) : ∀ r : List (List UInt8), jns sp (w :: r) = w ++ r.flatMap (sp :: ·)
  | [] => by simp [jns]
  | v :: r => by
    have := jns_cons sp v r
    unfold jns
    rw [this]
    simp
theorem wd_ne : ∀ k, k < 12 → wd k ≠ [] := by decide +kernel
theorem txtC_jn (W : List UInt8) (c : List Int) (ps : List Nat) : txtC W c ps = jn (W :: wordsC c ps) := by
  show _ = jns 32 _
  rw [jns_cons]
  unfold txtC wordsC
  rw [List.flatMap_map]
theorem form_none (kd : Int) (h : kd < 1 ∨ 12 < kd) : assartref30_form.f kd = some (bs [], ([] : List Nat).map fun (p : Nat) => (p : Int) + 1) := by
  unfold assartref30_form.f
  rw [if_neg (by omega), if_neg (by omega), if_neg (by omega), if_neg (by omega), if_neg (by omega), if_neg (by omega), if_neg (by omega), if_neg (by omega), if_neg (by omega), if_neg (by omega), if_neg (by omega), if_neg (by omega)]
  rfl
theorem refcall_to (t : List UInt8) (f : Int) (kd a s al v : Int) (w : World) (hc : ∀ x ∈ [kd, a, s, al, v], In64 x) (h : callT [kd, a, s, al, v] = (t, f)) : Calls Tryd.prog 26 #[.agg #[.int .i64 kd, .int .i64 a, .int .i64 s, .int .i64 al, .int .i64 v]] w fun e w' => e = .returned (.tuple #[.string (bs t), .int .i64 f]) ∧ Below w.heap.size w w' := by
  by_cases hk : kd < 1 ∨ 12 < kd
  · exact refcall_gen kd a s al v [] [] w hc (form_none kd hk) (fun p hp => by cases hp) (by decide) (by decide) (t, f) (by
      rw [if_pos (.inl rfl), ← h]
      exact if_pos hk)
  · obtain ⟨k, hk2⟩ : ∃ k : Nat, kd - 1 = (k : Int) := ⟨(kd - 1).toNat, by omega⟩
    have hk12 : k < 12 := by omega
    refine refcall_gen kd a s al v (wd k) (pt k) w hc (by rw [show kd = (k : Int) + 1 by omega]; exact form_f k hk12) (pt_lt k) (pt_len k) (Nat.le_trans (wd_len k) (by decide)) (t, f) ?_
    have hne : txtC (wd k) [kd, a, s, al, v] (pt k) ≠ [] := by
      intro e
      unfold txtC at e
      exact wd_ne k hk12 (List.append_eq_nil_iff.1 e).1
    rw [← h]
    by_cases hp : plainC [kd, a, s, al, v] (pt k) = [kd, a, s, al, v]
    · rw [if_neg (fun h => h.elim hne (fun h => h hp)), callT_eq [kd, a, s, al, v] k hk2 (by show 1 ≤ kd; omega) (by show kd ≤ 12; omega) hp, txtC_jn]
    · rw [if_pos (.inr hp), callT_ne [kd, a, s, al, v] k hk2 (by show 1 ≤ kd; omega) (by show kd ≤ 12; omega) hp]
set_option maxRecDepth 100000 in
set_option maxHeartbeats 20000000 in
theorem refline_calls (kd wk nm c0 c1 c2 c3 c4 : Int) (w : World) (hI : ∀ x ∈ [kd, wk, nm, c0, c1, c2, c3, c4], In64 x) :
    Calls Tryd.prog 9 #[.agg #[.int .i64 kd, .int .i64 wk, .int .i64 nm, .int .i64 c0, .int .i64 c1, .int .i64 c2, .int .i64 c3, .int .i64 c4]] w fun e w' => e = .returned (.tuple #[.string (bs (lineT kd wk nm [c0, c1, c2, c3, c4]).1), .int .i64 (lineT kd wk nm [c0, c1, c2, c3, c4]).2]) ∧ Below w.heap.size w w' := by
  have HI := Aside0.mk hI
  have hwk : In64 wk := hI wk (by simp)
  have hnm : In64 nm := hI nm (by simp)
  have HW := Aside0.mk (And.intro hwk hnm)
  clear hI hwk hnm
  go_enter Tryd.func9, Tryd.ntmps9
  have BX : EntAt (w.alloc (Obj.cells #[.int .i64 kd, .int .i64 wk, .int .i64 nm, .int .i64 c0, .int .i64 c1, .int .i64 c2, .int .i64 c3, .int .i64 c4] 25)) w.heap.size [kd, wk, nm, c0, c1, c2, c3, c4] := blk_new w _
  have BB := ballo (Below.refl w.heap.size w) (Obj.cells #[.int .i64 kd, .int .i64 wk, .int .i64 nm, .int .i64 c0, .int .i64 c1, .int .i64 c2, .int .i64 c3, .int .i64 c4] 25)
  go_upto_region 1 with fail
  generalize w.alloc (Obj.cells #[.int .i64 kd, .int .i64 wk, .int .i64 nm, .int .i64 c0, .int .i64 c1, .int .i64 c2, .int .i64 c3, .int .i64 c4] 25) = w1 at *
  have HX := Aside0.mk BX
  have HB := Aside0.mk BB
  clear BX BB
  obtain ⟨st, hst⟩ : ∃ st, decide ([c0, c1, c2, c3, c4] = zero5) = st := ⟨_, rfl⟩
  have HST := Aside0.mk hst
  clear hst
  obtain ⟨z0, z1, z2, z3, z4, z5, z6, z7⟩ : _ ∧ _ ∧ _ ∧ _ ∧ _ ∧ _ ∧ _ ∧ _ := ⟨blk_cell HX.out 0, blk_cell HX.out 1, blk_cell HX.out 2, blk_cell HX.out 3, blk_cell HX.out 4, blk_cell HX.out 5, blk_cell HX.out 6, blk_cell HX.out 7⟩
  go_cut [6] (fun s6 wy => s6 = .bool (decide (kd = 0) && st) ∧ w1 = wy)
  case first =>
    by_cases hk : kd = 0
    · subst hk
      by_cases e0 : c0 = 0
      · have d0 := eq_true e0
        clear e0
        by_cases e1 : c1 = 0
        · have d1 := eq_true e1
          clear e1
          by_cases e2 : c2 = 0
          · have d2 := eq_true e2
            clear e2
            by_cases e3 : c3 = 0
            · have d3 := eq_true e3
              clear e3
              by_cases e4 : c4 = 0
              · have d4 := eq_true e4
                clear e4
                go_wp2_with fail
                go_meet
                exact ⟨by rw [← HST.out]; simp [zero5, d0, d1, d2, d3, d4], rfl⟩
              · have d4 := eq_false e4
                clear e4
                go_wp2_with fail
                go_meet
                exact ⟨by rw [← HST.out]; simp [zero5, d0, d1, d2, d3, d4], rfl⟩
            · have d3 := eq_false e3
              clear e3
              go_wp2_with fail
              go_meet
              exact ⟨by rw [← HST.out]; simp [zero5, d0, d1, d2, d3], rfl⟩
          · have d2 := eq_false e2
            clear e2
            go_wp2_with fail
            go_meet
            exact ⟨by rw [← HST.out]; simp [zero5, d0, d1, d2], rfl⟩
        · have d1 := eq_false e1
          clear e1
          go_wp2_with fail
          go_meet
          exact ⟨by rw [← HST.out]; simp [zero5, d0, d1], rfl⟩
      · have d0 := eq_false e0
        clear e0
        go_wp2_with fail
        go_meet
        exact ⟨by rw [← HST.out]; simp [zero5, d0], rfl⟩
    · have q : (kd == 0) = false := by simpa using hk
      have q2 : decide (kd = 0) = false := by simpa using hk
      go_wp2_with fail
      go_meet
      exact ⟨by rw [q2]; rfl, rfl⟩
  case rest =>
  by_cases hA : kd = 0 ∧ st = true
  · obtain ⟨rfl, rfl⟩ := hA
    obtain ⟨rfl, rfl⟩ := hcut
    have qd : (decide ((0 : Int) = 0) && true) = true := rfl
    go_upto_region 2 with fail
    clear z0 z1 z2 z3 z4 z5 z6 z7
    have KS : Aside0 (∀ w', Below w1.heap.size w1 w' → (fun w' => w'.cell? ⟨w.heap.size, 1, none⟩ = some (.int .i64 wk) ∧ w'.cell? ⟨w.heap.size, 2, none⟩ = some (.int .i64 nm)) w') := ⟨fun w' hb => ⟨blk_cell (HX.out.below hb) 1, blk_cell (HX.out.below hb) 2⟩⟩
    have HBW := Aside0.mk (below_drew (Below.refl w1.heap.size w1))
    have s1 := bs_size (numL wk)
    have s2 := bs_size (numL nm)
    have l1 := numL_len wk HW.out.1
    have l2 := numL_len nm HW.out.2
    have f1 : (9223372036854775807 < 5 + (numL wk).length) = False := eq_false (by omega)
    have f2 : (9223372036854775807 < 5 + (numL wk).length + 1) = False := eq_false (by omega)
    have f3 : (9223372036854775807 < 5 + (numL wk).length + 1 + (numL nm).length) = False := eq_false (by omega)
    clear l1 l2
    go_region_held3 (fun w' => w'.cell? ⟨w.heap.size, 1, none⟩ = some (.int .i64 wk) ∧ w'.cell? ⟨w.heap.size, 2, none⟩ = some (.int .i64 nm))
      (first | (with_reducible exact KS.out _ HBW.out) | (with_reducible exact KS.out _ hX.out) | (with_reducible exact KS.out _ hY.out))
      (first
        | (go_at_call 25; (with_reducible refine (refnum_calls wk _ HW.out.1).mono ?_); rintro e w2 ⟨rfl, hB2⟩; first | (have hY := Aside0.mk (bthen hX.out hB2)) | (have hX := Aside0.mk (bthen HBW.out hB2)))
        | (go_at_call 25; (with_reducible refine (refnum_calls nm _ HW.out.2).mono ?_); rintro e w2 ⟨rfl, hB2⟩; first | (have hY := Aside0.mk (bthen hX.out hB2)) | (have hX := Aside0.mk (bthen HBW.out hB2))))
    all_goals
      go_wp2_with fail
      go_ret2
      refine ⟨?_, bthen HB.out hY.out⟩
    all_goals
      rw [show lineT 0 wk nm [c0, c1, c2, c3, c4] = (jn [stepW, numL wk, numL nm], 0) by unfold lineT; rw [if_pos ⟨rfl, of_decide_eq_true HST.out⟩]]
      show Ending.returned (.tuple #[.string (bs [115, 116, 101, 112, 32] ++ bs (numL wk) ++ bs [32] ++ bs (numL nm)), .int .i64 0]) = _
      rw [bs_append, bs_append, bs_append, jn3]
      simp [stepW]
  · obtain ⟨rfl, rfl⟩ := hcut
    have qd : (decide (kd = 0) && st) = false := by
      cases st with
      | true => by_cases h : kd = 0 <;> simp [h] at hA ⊢
      | false => simp
    have HA := Aside0.mk hA
    clear hA
    rw [qd]
    clear qd
    go_upto_region 3 with fail
    go_cut [25] (fun s25 wy => s25 = .bool (decide (kd = 2) && st) ∧ w1 = wy)
    case first =>
      by_cases hk : kd = 2
      · subst hk
        by_cases e0 : c0 = 0
        · have d0 := eq_true e0
          clear e0
          by_cases e1 : c1 = 0
          · have d1 := eq_true e1
            clear e1
            by_cases e2 : c2 = 0
            · have d2 := eq_true e2
              clear e2
              by_cases e3 : c3 = 0
              · have d3 := eq_true e3
                clear e3
                by_cases e4 : c4 = 0
                · have d4 := eq_true e4
                  clear e4
                  go_wp2_with fail
                  go_meet
                  exact ⟨by rw [← HST.out]; simp [zero5, d0, d1, d2, d3, d4], rfl⟩
                · have d4 := eq_false e4
                  clear e4
                  go_wp2_with fail
                  go_meet
                  exact ⟨by rw [← HST.out]; simp [zero5, d0, d1, d2, d3, d4], rfl⟩
              · have d3 := eq_false e3
                clear e3
                go_wp2_with fail
                go_meet
                exact ⟨by rw [← HST.out]; simp [zero5, d0, d1, d2, d3], rfl⟩
            · have d2 := eq_false e2
              clear e2
              go_wp2_with fail
              go_meet
              exact ⟨by rw [← HST.out]; simp [zero5, d0, d1, d2], rfl⟩
          · have d1 := eq_false e1
            clear e1
            go_wp2_with fail
            go_meet
            exact ⟨by rw [← HST.out]; simp [zero5, d0, d1], rfl⟩
        · have d0 := eq_false e0
          clear e0
          go_wp2_with fail
          go_meet
          exact ⟨by rw [← HST.out]; simp [zero5, d0], rfl⟩
      · have q : (kd == 2) = false := by simpa using hk
        have q2 : decide (kd = 2) = false := by simpa using hk
        go_wp2_with fail
        go_meet
        exact ⟨by rw [q2]; rfl, rfl⟩
    case rest =>
    by_cases hA : kd = 2 ∧ st = true
    · obtain ⟨rfl, rfl⟩ := hA
      obtain ⟨rfl, rfl⟩ := hcut
      have qe : (decide ((2 : Int) = 2) && true) = true := rfl
      go_upto_region 4 with fail
      clear z0 z1 z2 z3 z4 z5 z6 z7
      have KS : Aside0 (∀ w', Below w1.heap.size w1 w' → (fun w' => w'.cell? ⟨w.heap.size, 1, none⟩ = some (.int .i64 wk) ∧ w'.cell? ⟨w.heap.size, 2, none⟩ = some (.int .i64 nm)) w') := ⟨fun w' hb => ⟨blk_cell (HX.out.below hb) 1, blk_cell (HX.out.below hb) 2⟩⟩
      have HBW := Aside0.mk (below_drew (Below.refl w1.heap.size w1))
      have s1 := bs_size (numL wk)
      have s2 := bs_size (numL nm)
      have l1 := numL_len wk HW.out.1
      have l2 := numL_len nm HW.out.2
      have f1 : (9223372036854775807 < 5 + (numL wk).length) = False := eq_false (by omega)
      have f2 : (9223372036854775807 < 5 + (numL wk).length + 1) = False := eq_false (by omega)
      have f3 : (9223372036854775807 < 5 + (numL wk).length + 1 + (numL nm).length) = False := eq_false (by omega)
      clear l1 l2
      go_region_held3 (fun w' => w'.cell? ⟨w.heap.size, 1, none⟩ = some (.int .i64 wk) ∧ w'.cell? ⟨w.heap.size, 2, none⟩ = some (.int .i64 nm))
        (first | (with_reducible exact KS.out _ HBW.out) | (with_reducible exact KS.out _ hX.out) | (with_reducible exact KS.out _ hY.out))
        (first
          | (go_at_call 25; (with_reducible refine (refnum_calls wk _ HW.out.1).mono ?_); rintro e w2 ⟨rfl, hB2⟩; first | (have hY := Aside0.mk (bthen hX.out hB2)) | (have hX := Aside0.mk (bthen HBW.out hB2)))
          | (go_at_call 25; (with_reducible refine (refnum_calls nm _ HW.out.2).mono ?_); rintro e w2 ⟨rfl, hB2⟩; first | (have hY := Aside0.mk (bthen hX.out hB2)) | (have hX := Aside0.mk (bthen HBW.out hB2))))
      all_goals
        go_wp2_with fail
        go_ret2
        refine ⟨?_, bthen HB.out hY.out⟩
      all_goals
        rw [show lineT 2 wk nm [c0, c1, c2, c3, c4] = (jn [moveW, numL wk, numL nm], 0) by unfold lineT; rw [if_neg (by rintro ⟨h, _⟩; cases h), if_pos ⟨rfl, of_decide_eq_true HST.out⟩]]
        show Ending.returned (.tuple #[.string (bs [109, 111, 118, 101, 32] ++ bs (numL wk) ++ bs [32] ++ bs (numL nm)), .int .i64 0]) = _
        rw [bs_append, bs_append, bs_append, jn3]
        simp [moveW]
    · obtain ⟨rfl, rfl⟩ := hcut
      have qe : (decide (kd = 2) && st) = false := by
        cases st with
        | true => by_cases h : kd = 2 <;> simp [h] at hA ⊢
        | false => simp
      have HA2 := Aside0.mk hA
      clear hA
      rw [qe]
      clear qe
      by_cases hk1 : kd = 1
      · subst hk1
        by_cases hn : nm = 0
        · subst hn
          obtain ⟨t, f, ht⟩ : ∃ t f, callT [c0, c1, c2, c3, c4] = (t, f) := ⟨_, _, rfl⟩
          have HTT := Aside0.mk ht
          have htl : t.length ≤ 63 := (by have h4 := callT_len [c0, c1, c2, c3, c4] (fun x hx => HI.out x (by simp at hx ⊢; rcases hx with h | h | h | h | h <;> simp [h])); rw [ht] at h4; exact h4)
          clear ht
          have s1 := bs_size (numL wk)
          have s2 := bs_size t
          have l1 := numL_len wk HW.out.1
          have f1 : (9223372036854775807 < 5 + (numL wk).length) = False := eq_false (by omega)
          have f2 : (9223372036854775807 < 5 + (numL wk).length + 1) = False := eq_false (by omega)
          have f3 : (9223372036854775807 < 5 + (numL wk).length + 1 + t.length) = False := eq_false (by omega)
          clear l1 htl
          by_cases hf0 : f = 0
          · subst hf0
            go_wp2_with (first
              | (go_at_call 25; have _z := HB2; (with_reducible refine (refnum_calls wk _ HW.out.1).mono ?_); rintro e w3 ⟨rfl, hB3⟩)
              | (go_at_call 26; (with_reducible refine (refcall_to t 0 c0 c1 c2 c3 c4 _ (fun x hx => HI.out x (by simp at hx ⊢; rcases hx with h | h | h | h | h <;> simp [h])) HTT.out).mono ?_); rintro e w2 ⟨rfl, hB2⟩; have HB2 := Aside0.mk hB2; clear hB2; have zz := blk_cell (HX.out.below HB2.out) 1))
            go_ret2
            refine ⟨?_, bthen HB.out (bthen HB2.out hB3)⟩
            rw [show lineT 1 wk 0 [c0, c1, c2, c3, c4] = (jn [callW, numL wk, t], 0) by unfold lineT; rw [if_neg (by rintro ⟨h, _⟩; cases h), if_neg (by rintro ⟨h, _⟩; cases h), if_pos ⟨rfl, rfl, by rw [HTT.out]⟩, HTT.out]]
            show Ending.returned (.tuple #[.string (bs [99, 97, 108, 108, 32] ++ bs (numL wk) ++ bs [32] ++ bs t), .int .i64 0]) = _
            rw [bs_append, bs_append, bs_append, jn3]
            simp [callW]
          · have HF := Aside0.mk hf0
            have qf0 : (f == 0) = false := by simpa using hf0
            clear hf0
            go_wp2_with (go_at_call 26; (with_reducible refine (refcall_to t f c0 c1 c2 c3 c4 _ (fun x hx => HI.out x (by simp at hx ⊢; rcases hx with h | h | h | h | h <;> simp [h])) HTT.out).mono ?_); rintro e w2 ⟨rfl, hB2⟩)
            go_ret2
            refine ⟨?_, bthen HB.out hB2⟩
            rw [show lineT 1 wk 0 [c0, c1, c2, c3, c4] = ([], 2) by unfold lineT; rw [if_neg (by rintro ⟨h, _⟩; cases h), if_neg (by rintro ⟨h, _⟩; cases h), if_neg (by rintro ⟨_, _, h⟩; rw [HTT.out] at h; exact HF.out h)]]
            rfl
        · have HN := Aside0.mk hn
          have q : (nm == 0) = false := by simpa using hn
          clear hn
          go_wp2_with fail
          go_ret2
          refine ⟨?_, HB.out⟩
          rw [show lineT 1 wk nm [c0, c1, c2, c3, c4] = ([], 2) by unfold lineT; rw [if_neg (by rintro ⟨h, _⟩; cases h), if_neg (by rintro ⟨h, _⟩; cases h), if_neg (by rintro ⟨_, h, _⟩; exact HN.out h)]]
          rfl
      · have HK := Aside0.mk hk1
        have q : (kd == 1) = false := by simpa using hk1
        clear hk1
        go_wp2_with fail
        go_ret2
        refine ⟨?_, HB.out⟩
        rw [show lineT kd wk nm [c0, c1, c2, c3, c4] = ([], 2) by unfold lineT; rw [if_neg (by rintro ⟨h, h2⟩; exact HA.out ⟨h, by rw [← HST.out]; exact decide_eq_true h2⟩), if_neg (by rintro ⟨h, h2⟩; exact HA2.out ⟨h, by rw [← HST.out]; exact decide_eq_true h2⟩), if_neg (by rintro ⟨h, _⟩; exact HK.out h)]]
        rfl
end Go.Proofs.YtdaagoagfenadaaDoor.X
namespace Go.Proofs.YtdaagoagfenadaaDoor.X
open Go.RowKit Go.Proofs.YtdaagoagfenadaaDoor.YAll Go.Proofs.YtdaagoagfenadaaDoorW.PrintWords Go.Proofs.YtdaagoagfenadaaDoorW.PrintLast Go.Proofs.YtdaagoagfenadaaDoorW.PrintMore
set_option linter.unusedVariables false
set_option linter.unusedSimpArgs false
theorem cutB_no : ∀ s : List UInt8, ∀ c ∈ (cutB s).1, c ≠ 32
  | [], c, hc => by cases hc
  | d :: r, c, hc => by
    unfold cutB at hc
    by_cases hd : d = 32
    · rw [if_pos hd] at hc; cases hc
    · rw [if_neg hd] at hc
      rcases List.mem_cons.1 hc with rfl | hc
      · exact hd
      · exact cutB_no r c hc
theorem flds_cutB (s : List UInt8) : (flds s = [s] ∧ cutB s = (s, [])) ∨ (flds s = (cutB s).1 :: flds (cutB s).2 ∧ s = (cutB s).1 ++ 32 :: (cutB s).2) := by
  rcases cutB_or s with h | ⟨h, h2⟩
  · right
    refine ⟨?_, h⟩
    have := flds_app (cutB s).2 (cutB s).1 (cutB_no s)
    rw [← h] at this
    exact this
  · left
    refine ⟨flds_one s (fun c hc => cutB_no s c (by rw [← h]; exact hc)), ?_⟩
    exact Prod.ext h.symm h2
theorem rd_noblank {q : List UInt8} (h : (rdV q).2 = true) : flds q = [q] := by
  obtain ⟨h1, _⟩ := rdV_ok h
  refine flds_one q (fun c hc => ?_)
  rw [← h1] at hc
  exact num_no _ c hc
theorem ent_short (s : List UInt8) (h : (flds s).length < 3) : entT s = (zero8, 4) := by
  unfold entT
  rcases flds_cutB s with ⟨_, h1⟩ | ⟨h1, _⟩
  · rw [h1]
    have : cutB ([] : List UInt8) = ([], []) := rfl
    show (if (rdV (cutB []).1).2 = true then _ else _) = _
    rw [this]
    rw [if_neg (by show ¬ (rdV []).2 = true; rw [rdV_nil]; decide)]
  · obtain ⟨a, r, hs⟩ : ∃ a r, cutB s = (a, r) := ⟨_, _, rfl⟩
    rw [hs] at h1
    have h1' : flds s = a :: flds r := h1
    rw [hs]
    show (if (rdV (cutB r).1).2 = true then _ else _) = _
    rcases flds_cutB r with ⟨_, h2⟩ | ⟨h2, _⟩
    · rw [h2]
      have e1 : ¬ (rdV (r, ([] : List UInt8)).2).2 = true := by show ¬ (rdV []).2 = true; rw [rdV_nil]; decide
      have e2 : ¬ (parseT (r, ([] : List UInt8)).2).2 = 0 := parseT_nil
      rw [if_neg e1, if_neg e1, if_neg e2]
      simp only [ite_self]
    · exfalso
      obtain ⟨x, y, hx⟩ := flds_cons (cutB r).2
      rw [h1', h2, hx] at h
      simp only [List.length_cons] at h
      omega
/-- Three pieces or more. -/
theorem ent_three (s a b c : List UInt8) (rest : List (List UInt8)) (h : flds s = a :: b :: c :: rest) : ∃ q, flds q = c :: rest ∧ s = a ++ 32 :: (b ++ 32 :: q) ∧
    entT s = (if (rdV b).2 = true then
      if a = stepW then (if (rdV c).2 = true ∧ rest.length = 0 then ([0, (rdV b).1, (rdV c).1, 0, 0, 0, 0, 0], 0) else (zero8, 4))
      else if a = moveW then (if (rdV c).2 = true ∧ rest.length = 0 then ([2, (rdV b).1, (rdV c).1, 0, 0, 0, 0, 0], 0) else (zero8, 4))
      else if a = callW then (if (parseT q).2 = 0 then (1 :: (rdV b).1 :: 0 :: (parseT q).1, 0) else (zero8, 4))
      else (zero8, 4)
    else (zero8, 4)) := by
  rcases flds_cutB s with ⟨h1, _⟩ | ⟨h1, e1⟩
  · rw [h1] at h; cases h
  obtain ⟨a', r, hs⟩ : ∃ x y, cutB s = (x, y) := ⟨_, _, rfl⟩
  rw [hs] at h1 e1
  have h1' : flds s = a' :: flds r := h1
  have e1' : s = a' ++ 32 :: r := e1
  rw [h] at h1'
  obtain ⟨rfl, h2⟩ := List.cons.inj h1'
  rcases flds_cutB r with ⟨h3, _⟩ | ⟨h3, e3⟩
  · rw [h3] at h2; cases h2
  obtain ⟨b', q, hr⟩ : ∃ x y, cutB r = (x, y) := ⟨_, _, rfl⟩
  rw [hr] at h3 e3
  have h3' : flds r = b' :: flds q := h3
  have e3' : r = b' ++ 32 :: q := e3
  rw [h3'] at h2
  obtain ⟨rfl, h4⟩ := List.cons.inj h2
  refine ⟨q, h4.symm, by rw [e1', e3'], ?_⟩
  unfold entT
  rw [hs]
  show (if (rdV (cutB r).1).2 = true then _ else _) = _
  rw [hr]
  show (if (rdV b).2 = true then if a = stepW then (if (rdV q).2 = true then _ else _) else if a = moveW then (if (rdV q).2 = true then _ else _) else if a = callW then (if (parseT q).2 = 0 then _ else _) else _ else _) = _
  have key : ∀ (k : Int), (if (rdV q).2 = true then ([k, (rdV b).1, (rdV q).1, 0, 0, 0, 0, 0], (0 : Int)) else (zero8, 4)) = (if (rdV c).2 = true ∧ rest.length = 0 then ([k, (rdV b).1, (rdV c).1, 0, 0, 0, 0, 0], 0) else (zero8, 4)) := by
    intro k
    by_cases hq : (rdV q).2 = true
    · have h5 := rd_noblank hq
      rw [h5] at h4
      obtain ⟨rfl, h6⟩ := List.cons.inj h4
      rw [if_pos hq, if_pos ⟨hq, by rw [h6]; rfl⟩]
    · rw [if_neg hq, if_neg]
      rintro ⟨hc, hl⟩
      obtain rfl := List.length_eq_zero_iff.1 hl
      rcases flds_cutB q with ⟨h5, _⟩ | ⟨h5, _⟩
      · rw [h5] at h4
        obtain ⟨rfl, _⟩ := List.cons.inj h4
        exact hq hc
      · obtain ⟨x, y, hx⟩ := flds_cons (cutB q).2
        rw [h5, hx] at h4
        cases h4
  rw [key 0, key 2]
theorem refread_to (l : List UInt8) (v : Int) (b : Bool) (w : World) (h : rdV l = (v, b)) : Calls Tryd.prog 31 #[.string (bs l)] w fun e w' => e = .returned (.tuple #[.int .i64 v, .bool b]) ∧ Below w.heap.size w w' := by
  have := refread_calls l w
  unfold ReadPost at this
  rw [h] at this
  exact this
/-- assartref30.Fields: a row of the call's own. -/
theorem reffields_any (l : List UInt8) (n : Nat) (w : World) (hl : l.length ≤ 2000000) (hn : (flds l).length = n) : Calls Tryd.prog 30 #[.string (bs l)] w fun e w' => ∃ A cap, e = .returned (.slice A n cap) ∧ Below w.heap.size w w' :=
  (assartref30_Fields.calls _ (bs l) _ w (refflds_f l hl)).mono fun e w' ⟨v, he, hR, hB⟩ => by
    have hp : 0 < ((flds l).map bs).length := by rw [List.length_map]; exact List.length_pos_iff.2 (flds_ne l)
    obtain ⟨g, cap, rfl, hb, hlc, cells, hcl⟩ := Kd.R_form hR hp
    rw [List.length_map, hn] at he
    exact ⟨_, cap, he, hB⟩
theorem txt_cell0 {w : World} {g n : Nat} {ls : List (List UInt8)} (h : Kd.C Kd.string w (some ⟨g, 0, none⟩) n (ls.map bs)) (i : Nat) (x : List UInt8) (hi : i < n) (hx : ls[i]? = some x) : w.cell? ⟨g, i, none⟩ = some (.string (bs x)) := by
  obtain ⟨ad, e, hc⟩ := Kd.at_string h (i : Int) (by omega) (by omega)
  obtain rfl := Option.some.inj e
  have e2 : rdOf ByteArray.empty (ls.map bs) (i : Int) = bs x := by
    unfold rdOf
    simp [List.getD, hx]
  rw [e2] at hc
  have e3 : (Addr.add ⟨g, 0, none⟩ (i : Int).toNat) = ⟨g, i, none⟩ := by
    by_cases hi0 : i = 0
    · subst hi0; rfl
    · have e4 : (i : Int).toNat = i := by omega
      rw [e4]
      simp [Addr.add, hi0]
  rw [e3] at hc
  exact hc
theorem len5z : ([0, 0, 0, 0, 0] : List Int).length = 5 := rfl
theorem cell_below {w w' : World} {p : Addr} {u : Value} (hb : Below w.heap.size w w') (h : w.cell? p = some u) : w'.cell? p = some u := (hb.cell (World.block_lt_of_cell? w _ h)).trans h
theorem reffields_three (l a b c : List UInt8) (rest : List (List UInt8)) (n : Nat) (w : World) (hl : l.length ≤ 2000000) (hf : flds l = a :: b :: c :: rest) (hn : n = rest.length + 3) : Calls Tryd.prog 30 #[.string (bs l)] w fun e w' => ∃ g cap, e = .returned (.slice (some ⟨g, 0, none⟩) n cap) ∧ (w'.cell? ⟨g, 0, none⟩ = some (.string (bs a)) ∧ w'.cell? ⟨g, 1, none⟩ = some (.string (bs b)) ∧ w'.cell? ⟨g, 2, none⟩ = some (.string (bs c))) ∧ Below w.heap.size w w' :=
  (assartref30_Fields.calls _ (bs l) _ w (refflds_f l hl)).mono fun e w' ⟨v, he, hR, hB⟩ => by
    have hp : 0 < ((flds l).map bs).length := by rw [List.length_map]; exact List.length_pos_iff.2 (flds_ne l)
    obtain ⟨g, cap, rfl, hb, hlc, cells, hcl⟩ := Kd.R_form hR hp
    obtain ⟨h1, hcap, hC⟩ := Kd.R_reads' hR
    have hlen : (flds l).length = n := by rw [hf, hn]; rfl
    rw [List.length_map, hlen] at he hC
    clear hp hR hb hlc hcl h1 hcap
    refine ⟨g, cap, he, ⟨?_, ?_, ?_⟩, hB⟩
    · exact txt_cell0 hC 0 a (by omega) (by rw [hf]; rfl)
    · exact txt_cell0 hC 1 b (by omega) (by rw [hf]; rfl)
    · exact txt_cell0 hC 2 c (by omega) (by rw [hf]; rfl)
set_option maxRecDepth 100000 in
set_option maxHeartbeats 20000000 in
theorem refent_short (l : List UInt8) (w : World) (hl : l.length ≤ 2000000) (h : (flds l).length < 3) : Calls Tryd.prog 11 #[.string (bs l)] w fun e w' => e = .returned (.tuple #[.agg (zero8.map (Value.int .i64)).toArray, .int .i64 4]) ∧ Below w.heap.size w w' := by
  obtain ⟨n, hn⟩ : ∃ n, (flds l).length = n := ⟨_, rfl⟩
  rw [hn] at h
  have HL := Aside0.mk (And.intro hl hn)
  clear hl hn
  have n3 : decide ((n : Int) < 3) = true := decide_eq_true (by omega)
  clear h
  go_enter Tryd.func11, Tryd.ntmps11
  have BX : EntAt (w.alloc (Obj.cells #[.int .i64 0, .int .i64 0, .int .i64 0, .int .i64 0, .int .i64 0, .int .i64 0, .int .i64 0, .int .i64 0] 25)) w.heap.size zero8 := blk_new w _
  have BB := ballo (Below.refl w.heap.size w) (Obj.cells #[.int .i64 0, .int .i64 0, .int .i64 0, .int .i64 0, .int .i64 0, .int .i64 0, .int .i64 0, .int .i64 0] 25)
  go_upto_region 1 with fail
  generalize w.alloc (Obj.cells #[.int .i64 0, .int .i64 0, .int .i64 0, .int .i64 0, .int .i64 0, .int .i64 0, .int .i64 0, .int .i64 0] 25) = w1 at *
  have HX := Aside0.mk BX
  have HB := Aside0.mk BB
  clear BX BB
  go_wp2_with (go_at_call 30; (with_reducible refine (reffields_any l n _ HL.out.1 HL.out.2).mono ?_); rintro e w2 ⟨A2, c2, rfl, hB2⟩; have HB2 := Aside0.mk hB2; obtain ⟨z0, z1, z2, z3, z4, z5, z6, z7⟩ := (HX.out.below hB2).eight; have zf := (HX.out.below hB2).frozen; clear hB2)
  (try simp only [Exit.inBlock, Exit.then])
  refine bodyPost_ret (ent_res (p := 2) (u := 3) _ _ w.heap.size [0, 0, 0, 0, 0, 0, 0, 0] rfl rfl ((HX.out.below HB2.out).set8 rfl 0 0 0 0 0 0 0 0) rfl) rfl ?_
  exact ⟨rfl, below8 (bthen HB.out HB2.out) (Nat.le_refl _) 0 0 0 0 0 0 0 0⟩
set_option maxRecDepth 100000 in
set_option maxHeartbeats 20000000 in
theorem refent_three (l a b c q : List UInt8) (rest : List (List UInt8)) (v m c0 c1 c2 c3 c4 f : Int) (ok is : Bool) (w : World) (hl : l.length ≤ 2000000) (hf : flds l = a :: b :: c :: rest) (hb : rdV b = (v, ok)) (hc : rdV c = (m, is)) (hq : l = a ++ 32 :: (b ++ 32 :: q)) (hp : parseT q = ([c0, c1, c2, c3, c4], f)) (x : List Int) (g : Int)
    (hx : (if ok = true then
      if a = stepW then (if is = true ∧ rest.length = 0 then ([0, v, m, 0, 0, 0, 0, 0], 0) else (zero8, 4))
      else if a = moveW then (if is = true ∧ rest.length = 0 then ([2, v, m, 0, 0, 0, 0, 0], 0) else (zero8, 4))
      else if a = callW then (if f = 0 then (1 :: v :: 0 :: [c0, c1, c2, c3, c4], 0) else (zero8, 4))
      else (zero8, 4)
    else (zero8, (4 : Int))) = (x, g)) : Calls Tryd.prog 11 #[.string (bs l)] w fun e w' => e = .returned (.tuple #[.agg (x.map (Value.int .i64)).toArray, .int .i64 g]) ∧ Below w.heap.size w w' := by
  obtain ⟨n, hn⟩ : ∃ n, n = rest.length + 3 := ⟨_, rfl⟩
  have HL := Aside0.mk (And.intro hl (And.intro hf hn))
  have HR := Aside0.mk (And.intro hb hc)
  have HQ := Aside0.mk (And.intro hq hp)
  have HE := Aside0.mk hx
  have n3 : decide ((n : Int) < 3) = false := decide_eq_false (by omega)
  have p0 : ((0 : Int) < (n : Int)) = True := eq_true (by omega)
  have p1 : ((1 : Int) < (n : Int)) = True := eq_true (by omega)
  have p2 : ((2 : Int) < (n : Int)) = True := eq_true (by omega)
  have p3 : (0 < n) = True := eq_true (by omega)
  have p4 : (1 < n) = True := eq_true (by omega)
  have p5 : (2 < n) = True := eq_true (by omega)
  have HN := Aside0.mk hn
  clear hl hf hn hb hc hq hp hx
  go_enter Tryd.func11, Tryd.ntmps11
  have BX : EntAt (w.alloc (Obj.cells #[.int .i64 0, .int .i64 0, .int .i64 0, .int .i64 0, .int .i64 0, .int .i64 0, .int .i64 0, .int .i64 0] 25)) w.heap.size zero8 := blk_new w _
  have BB := ballo (Below.refl w.heap.size w) (Obj.cells #[.int .i64 0, .int .i64 0, .int .i64 0, .int .i64 0, .int .i64 0, .int .i64 0, .int .i64 0, .int .i64 0] 25)
  go_upto_region 1 with fail
  generalize w.alloc (Obj.cells #[.int .i64 0, .int .i64 0, .int .i64 0, .int .i64 0, .int .i64 0, .int .i64 0, .int .i64 0, .int .i64 0] 25) = w1 at *
  have HX := Aside0.mk BX
  have HB := Aside0.mk BB
  clear BX BB
  go_upto_region 6 with (first
    | (go_at_call 31; have _z := HB3; (with_reducible refine (refread_to c m is _ HR.out.2).mono ?_); rintro e w4 ⟨rfl, hB4⟩; have HB4 := Aside0.mk (bthen HB3.out hB4); obtain ⟨s0, s1, s2⟩ : _ ∧ _ ∧ _ := ⟨cell_below hB4 HC3.out.1, cell_below hB4 HC3.out.2.1, cell_below hB4 HC3.out.2.2⟩; clear hB4)
    | (go_at_call 31; have _z := HB2; (with_reducible refine (refread_to b v ok _ HR.out.1).mono ?_); rintro e w3 ⟨rfl, hB3⟩; have HB3 := Aside0.mk (bthen HB2.out hB3); have HC3 := Aside0.mk (And.intro (cell_below hB3 HC2.out.1) (And.intro (cell_below hB3 HC2.out.2.1) (cell_below hB3 HC2.out.2.2))); obtain ⟨y0, y1, y2⟩ := HC3.out; clear hB3)
    | (go_at_call 30; (with_reducible refine (reffields_three l a b c rest n _ HL.out.1 HL.out.2.1 HL.out.2.2).mono ?_); rintro e w2 ⟨gg, cap, rfl, hC2, hB2⟩; have HB2 := Aside0.mk hB2; have HC2 := Aside0.mk hC2; obtain ⟨x0, x1, x2⟩ := hC2; clear hB2))
  obtain ⟨z0, z1, z2, z3, z4, z5, z6, z7⟩ := (HX.out.below HB4.out).eight
  have zf := (HX.out.below HB4.out).frozen
  cases ok with
  | false =>
    have hx := HE.out
    rw [if_neg (by decide)] at hx
    obtain ⟨rfl, rfl⟩ := Prod.mk.inj hx
    clear hx
    go_wp2_with fail
    (try simp only [Exit.inBlock, Exit.then])
    refine bodyPost_ret (ent_res (p := 2) (u := 3) _ _ w.heap.size [0, 0, 0, 0, 0, 0, 0, 0] rfl rfl ((HX.out.below HB4.out).set8 rfl 0 0 0 0 0 0 0 0) rfl) rfl ?_
    exact ⟨rfl, below8 (bthen HB.out HB4.out) (Nat.le_refl _) 0 0 0 0 0 0 0 0⟩
  | true =>
    by_cases h1 : a = stepW
    · subst h1
      have m1 : (bs stepW).toList = [115, 116, 101, 112] := bs_list _
      cases is with
      | false =>
        have hx := HE.out
        rw [if_pos rfl, if_pos rfl, if_neg (fun h => by cases h.1)] at hx
        obtain ⟨rfl, rfl⟩ := Prod.mk.inj hx
        clear hx
        go_wp2_with fail
        (try simp only [Exit.inBlock, Exit.then])
        refine bodyPost_ret (ent_res (p := 2) (u := 3) _ _ w.heap.size [0, 0, 0, 0, 0, 0, 0, 0] rfl rfl ((HX.out.below HB4.out).set8 rfl 0 0 0 0 0 0 0 0) rfl) rfl ?_
        exact ⟨rfl, below8 (bthen HB.out HB4.out) (Nat.le_refl _) 0 0 0 0 0 0 0 0⟩
      | true =>
        by_cases h3 : rest.length = 0
        · have e3 : ((n : Int) == 3) = true := by rw [beq_iff_eq]; have := HN.out; omega
          have hx := HE.out
          have H3 := Aside0.mk h3
          clear h3
          rw [if_pos rfl, if_pos rfl, if_pos ⟨rfl, H3.out⟩] at hx
          obtain ⟨rfl, rfl⟩ := Prod.mk.inj hx
          clear hx
          go_wp2_with fail
          (try simp only [Exit.inBlock, Exit.then])
          refine bodyPost_ret (ent_res (p := 2) (u := 3) _ _ w.heap.size [0, v, m, 0, 0, 0, 0, 0] rfl rfl ((HX.out.below HB4.out).set8 rfl 0 v m 0 0 0 0 0) rfl) rfl ?_
          exact ⟨rfl, below8 (bthen HB.out HB4.out) (Nat.le_refl _) 0 v m 0 0 0 0 0⟩
        · have e3 : ((n : Int) == 3) = false := by rw [beq_eq_false_iff_ne]; have := HN.out; omega
          have hx := HE.out
          have H3 := Aside0.mk h3
          clear h3
          rw [if_pos rfl, if_pos rfl, if_neg (fun h => H3.out h.2)] at hx
          obtain ⟨rfl, rfl⟩ := Prod.mk.inj hx
          clear hx
          go_wp2_with fail
          (try simp only [Exit.inBlock, Exit.then])
          refine bodyPost_ret (ent_res (p := 2) (u := 3) _ _ w.heap.size [0, 0, 0, 0, 0, 0, 0, 0] rfl rfl ((HX.out.below HB4.out).set8 rfl 0 0 0 0 0 0 0 0) rfl) rfl ?_
          exact ⟨rfl, below8 (bthen HB.out HB4.out) (Nat.le_refl _) 0 0 0 0 0 0 0 0⟩
    · by_cases h2 : a = moveW
      · subst h2
        have m1 : (bs moveW).toList = [109, 111, 118, 101] := bs_list _
        clear h1
        cases is with
        | false =>
          have hx := HE.out
          rw [if_pos rfl, if_neg (by decide), if_pos rfl, if_neg (fun h => by cases h.1)] at hx
          obtain ⟨rfl, rfl⟩ := Prod.mk.inj hx
          clear hx
          go_wp2_with fail
          (try simp only [Exit.inBlock, Exit.then])
          refine bodyPost_ret (ent_res (p := 2) (u := 3) _ _ w.heap.size [0, 0, 0, 0, 0, 0, 0, 0] rfl rfl ((HX.out.below HB4.out).set8 rfl 0 0 0 0 0 0 0 0) rfl) rfl ?_
          exact ⟨rfl, below8 (bthen HB.out HB4.out) (Nat.le_refl _) 0 0 0 0 0 0 0 0⟩
        | true =>
          by_cases h3 : rest.length = 0
          · have e3 : ((n : Int) == 3) = true := by rw [beq_iff_eq]; have := HN.out; omega
            have hx := HE.out
            have H3 := Aside0.mk h3
            clear h3
            rw [if_pos rfl, if_neg (by decide), if_pos rfl, if_pos ⟨rfl, H3.out⟩] at hx
            obtain ⟨rfl, rfl⟩ := Prod.mk.inj hx
            clear hx
            go_wp2_with fail
            (try simp only [Exit.inBlock, Exit.then])
            refine bodyPost_ret (ent_res (p := 2) (u := 3) _ _ w.heap.size [2, v, m, 0, 0, 0, 0, 0] rfl rfl ((HX.out.below HB4.out).set8 rfl 2 v m 0 0 0 0 0) rfl) rfl ?_
            exact ⟨rfl, below8 (bthen HB.out HB4.out) (Nat.le_refl _) 2 v m 0 0 0 0 0⟩
          · have e3 : ((n : Int) == 3) = false := by rw [beq_eq_false_iff_ne]; have := HN.out; omega
            have hx := HE.out
            have H3 := Aside0.mk h3
            clear h3
            rw [if_pos rfl, if_neg (by decide), if_pos rfl, if_neg (fun h => H3.out h.2)] at hx
            obtain ⟨rfl, rfl⟩ := Prod.mk.inj hx
            clear hx
            go_wp2_with fail
            (try simp only [Exit.inBlock, Exit.then])
            refine bodyPost_ret (ent_res (p := 2) (u := 3) _ _ w.heap.size [0, 0, 0, 0, 0, 0, 0, 0] rfl rfl ((HX.out.below HB4.out).set8 rfl 0 0 0 0 0 0 0 0) rfl) rfl ?_
            exact ⟨rfl, below8 (bthen HB.out HB4.out) (Nat.le_refl _) 0 0 0 0 0 0 0 0⟩
      · by_cases h3 : a = callW
        · subst h3
          have m1 : (bs callW).toList = [99, 97, 108, 108] := bs_list _
          clear h1 h2
          cases is with
          | false =>
            have hx := HE.out
            go_upto_region 11 with fail
            have ea : (bs callW).size = 4 := bs_size callW
            have eb := bs_size b
            have el := bs_size l
            have hll : l.length = 4 + b.length + 2 + q.length := by rw [HQ.out.1]; simp only [List.length_append, List.length_cons, callW]; simp; omega
            have hw1 : IntKind.i64.wrap ((4 : Int) + (b.length : Int)) = (4 : Int) + (b.length : Int) := IntWalk.i64_in _ (by have := HL.out.1; omega)
            have hw2 : IntKind.i64.wrap ((4 : Int) + (b.length : Int) + 2) = (4 : Int) + (b.length : Int) + 2 := IntWalk.i64_in _ (by have := HL.out.1; omega)
            have k0 : (0 : Int) ≤ (4 : Int) + (b.length : Int) + 2 := by omega
            have k1 : (4 : Int) + (b.length : Int) + 2 ≤ (l.length : Int) := by omega
            have ht : ((4 : Int) + (b.length : Int) + 2).toNat = 4 + b.length + 2 := by omega
            have he : (bs l).extract (4 + b.length + 2) l.length = bs q := by
              rw [bs_extract, List.take_length, HQ.out.1]
              have e4 : callW ++ 32 :: (b ++ 32 :: q) = (callW ++ 32 :: (b ++ [32])) ++ q := by simp
              rw [e4, List.drop_left' (by simp [callW]; omega)]
            have HLL := Aside0.mk hll
            clear hll
            have W4 := Aside0.mk (Nat.le_refl w4.heap.size)
            go_cut [9, 10] (fun s9 s10 wy => ∃ g9 : Nat, s9 = .pointer (some ⟨g9, 0, none⟩) ∧ s10 = .int .i64 f ∧ Aside0 (CallAt wy g9 [c0, c1, c2, c3, c4]) ∧ Aside0 (Below w4.heap.size w4 wy))
            case first =>
              have HBW := Aside0.mk (below_drew (Below.refl w4.heap.size w4))
              have HBA := Aside0.mk (below_drew (ballo (Below.refl w4.heap.size w4) (Obj.cells #[.int .i64 0, .int .i64 0, .int .i64 0, .int .i64 0, .int .i64 0] 23)))
              have KS : Aside0 (∀ w', Below w4.heap.size w4 w' → (fun w' => w'.cell? ⟨gg, 0, none⟩ = some (.string (bs callW)) ∧ w'.cell? ⟨gg, 1, none⟩ = some (.string (bs b))) w') := ⟨fun w' hb => ⟨cell_below hb s0, cell_below hb s1⟩⟩
              go_region_held3 (fun w' => w'.cell? ⟨gg, 0, none⟩ = some (.string (bs callW)) ∧ w'.cell? ⟨gg, 1, none⟩ = some (.string (bs b)))
                (first | (with_reducible exact KS.out _ HBW.out) | (with_reducible exact KS.out _ hX.out) | (with_reducible exact KS.out _ HBA.out) | (with_reducible exact KS.out _ hY0.out) | (with_reducible exact KS.out _ hY.out))
                (first | (go_at_call 32; (with_reducible refine (refparse_calls q c0 c1 c2 c3 c4 f _ (by have h1 := HLL.out; have h2 := HL.out.1; omega) HQ.out.2).mono ?_); rintro e w5 ⟨rfl, hB5⟩; first | (have hX := Aside0.mk (bthen HBW.out hB5); have hY := Aside0.mk (ballo hX.out (Obj.cells #[.int .i64 c0, .int .i64 c1, .int .i64 c2, .int .i64 c3, .int .i64 c4] 23)); have hY0 := Aside0.mk (ballo hX.out (Obj.cells #[.int .i64 0, .int .i64 0, .int .i64 0, .int .i64 0, .int .i64 0] 23)); have hC : Aside0 (CallAt (w5.alloc (Obj.cells #[.int .i64 c0, .int .i64 c1, .int .i64 c2, .int .i64 c3, .int .i64 c4] 23)) w5.heap.size [c0, c1, c2, c3, c4]) := ⟨blk_new w5 _⟩) | (have hX := Aside0.mk (bthen HBA.out hB5); have hY := Aside0.mk (((((hX.out.setCell (p := ⟨w4.heap.size, 0, none⟩) W4.out (.int .i64 c0)).setCell (p := ⟨w4.heap.size, 1, none⟩) W4.out (.int .i64 c1)).setCell (p := ⟨w4.heap.size, 2, none⟩) W4.out (.int .i64 c2)).setCell (p := ⟨w4.heap.size, 3, none⟩) W4.out (.int .i64 c3)).setCell (p := ⟨w4.heap.size, 4, none⟩) W4.out (.int .i64 c4)); have hC : Aside0 (CallAt w5 w4.heap.size [0, 0, 0, 0, 0]) := ⟨blk_below (blk_drew (blk_new w4 (Obj.cells #[.int .i64 0, .int .i64 0, .int .i64 0, .int .i64 0, .int .i64 0] 23))) hB5⟩); obtain ⟨u0, u1, u2, u3, u4⟩ := hC.out.five; have uf := hC.out.frozen))
              all_goals (clear s0 s1 s2 x0 x1 x2 y0 y1 y2 z0 z1 z2 z3 z4 z5 z6 z7)
              all_goals
                refine ‹∀ (a' : Act) (w' : World), Met _ a' w' → _› _ _ ?_
                go_meet
                exact ⟨_, rfl, rfl, ⟨by first | (with_reducible exact hC.out) | (with_reducible exact CallAt.set5 hC.out len5z c0 c1 c2 c3 c4)⟩, ⟨hY.out⟩⟩
            case rest =>
              obtain ⟨g9, rfl, rfl, HC9, HB9⟩ := hcut
              clear ea eb el hw1 hw2 k0 k1 ht he p0 p1 p2 p3 p4 p5 m1 n3
              clear s0 s1 s2 x0 x1 x2 y0 y1 y2 z0 z1 z2 z3 z4 z5 z6 z7 zf
              obtain ⟨u0, u1, u2, u3, u4⟩ := HC9.out.five
              have HB5 := Aside0.mk (bthen HB4.out HB9.out)
              clear HB9
              obtain ⟨z0, z1, z2, z3, z4, z5, z6, z7⟩ := (HX.out.below HB5.out).eight
              have zf := (HX.out.below HB5.out).frozen
              rw [if_pos rfl, if_neg (by decide), if_neg (by decide), if_pos rfl] at hx
              by_cases hf0 : f = 0
              · subst hf0
                rw [if_pos rfl] at hx
                obtain ⟨rfl, rfl⟩ := Prod.mk.inj hx
                clear hx
                go_wp2_with fail
                (try simp only [Exit.inBlock, Exit.then])
                refine bodyPost_ret (ent_res (p := 2) (u := 3) _ _ w.heap.size [1, v, 0, c0, c1, c2, c3, c4] rfl rfl ((HX.out.below HB5.out).set8 rfl 1 v 0 c0 c1 c2 c3 c4) rfl) rfl ?_
                exact ⟨rfl, below8 (bthen HB.out HB5.out) (Nat.le_refl _) 1 v 0 c0 c1 c2 c3 c4⟩
              · rw [if_neg hf0] at hx
                obtain ⟨rfl, rfl⟩ := Prod.mk.inj hx
                clear hx
                have qf0 : (f == 0) = false := by simpa using hf0
                clear hf0
                go_wp2_with fail
                (try simp only [Exit.inBlock, Exit.then])
                refine bodyPost_ret (ent_res (p := 2) (u := 3) _ _ w.heap.size [0, 0, 0, 0, 0, 0, 0, 0] rfl rfl ((HX.out.below HB5.out).set8 rfl 0 0 0 0 0 0 0 0) rfl) rfl ?_
                exact ⟨rfl, below8 (bthen HB.out HB5.out) (Nat.le_refl _) 0 0 0 0 0 0 0 0⟩
          | true =>
            by_cases h3 : rest.length = 0
            · have e3 : ((n : Int) == 3) = true := by rw [beq_iff_eq]; have := HN.out; omega
              have hx := HE.out
              have H3 := Aside0.mk h3
              clear h3
              go_upto_region 11 with fail
              have ea : (bs callW).size = 4 := bs_size callW
              have eb := bs_size b
              have el := bs_size l
              have hll : l.length = 4 + b.length + 2 + q.length := by rw [HQ.out.1]; simp only [List.length_append, List.length_cons, callW]; simp; omega
              have hw1 : IntKind.i64.wrap ((4 : Int) + (b.length : Int)) = (4 : Int) + (b.length : Int) := IntWalk.i64_in _ (by have := HL.out.1; omega)
              have hw2 : IntKind.i64.wrap ((4 : Int) + (b.length : Int) + 2) = (4 : Int) + (b.length : Int) + 2 := IntWalk.i64_in _ (by have := HL.out.1; omega)
              have k0 : (0 : Int) ≤ (4 : Int) + (b.length : Int) + 2 := by omega
              have k1 : (4 : Int) + (b.length : Int) + 2 ≤ (l.length : Int) := by omega
              have ht : ((4 : Int) + (b.length : Int) + 2).toNat = 4 + b.length + 2 := by omega
              have he : (bs l).extract (4 + b.length + 2) l.length = bs q := by
                rw [bs_extract, List.take_length, HQ.out.1]
                have e4 : callW ++ 32 :: (b ++ 32 :: q) = (callW ++ 32 :: (b ++ [32])) ++ q := by simp
                rw [e4, List.drop_left' (by simp [callW]; omega)]
              have HLL := Aside0.mk hll
              clear hll
              have W4 := Aside0.mk (Nat.le_refl w4.heap.size)
              go_cut [9, 10] (fun s9 s10 wy => ∃ g9 : Nat, s9 = .pointer (some ⟨g9, 0, none⟩) ∧ s10 = .int .i64 f ∧ Aside0 (CallAt wy g9 [c0, c1, c2, c3, c4]) ∧ Aside0 (Below w4.heap.size w4 wy))
              case first =>
                have HBW := Aside0.mk (below_drew (Below.refl w4.heap.size w4))
                have HBA := Aside0.mk (below_drew (ballo (Below.refl w4.heap.size w4) (Obj.cells #[.int .i64 0, .int .i64 0, .int .i64 0, .int .i64 0, .int .i64 0] 23)))
                have KS : Aside0 (∀ w', Below w4.heap.size w4 w' → (fun w' => w'.cell? ⟨gg, 0, none⟩ = some (.string (bs callW)) ∧ w'.cell? ⟨gg, 1, none⟩ = some (.string (bs b))) w') := ⟨fun w' hb => ⟨cell_below hb s0, cell_below hb s1⟩⟩
                go_region_held3 (fun w' => w'.cell? ⟨gg, 0, none⟩ = some (.string (bs callW)) ∧ w'.cell? ⟨gg, 1, none⟩ = some (.string (bs b)))
                  (first | (with_reducible exact KS.out _ HBW.out) | (with_reducible exact KS.out _ hX.out) | (with_reducible exact KS.out _ HBA.out) | (with_reducible exact KS.out _ hY0.out) | (with_reducible exact KS.out _ hY.out))
                  (first | (go_at_call 32; (with_reducible refine (refparse_calls q c0 c1 c2 c3 c4 f _ (by have h1 := HLL.out; have h2 := HL.out.1; omega) HQ.out.2).mono ?_); rintro e w5 ⟨rfl, hB5⟩; first | (have hX := Aside0.mk (bthen HBW.out hB5); have hY := Aside0.mk (ballo hX.out (Obj.cells #[.int .i64 c0, .int .i64 c1, .int .i64 c2, .int .i64 c3, .int .i64 c4] 23)); have hY0 := Aside0.mk (ballo hX.out (Obj.cells #[.int .i64 0, .int .i64 0, .int .i64 0, .int .i64 0, .int .i64 0] 23)); have hC : Aside0 (CallAt (w5.alloc (Obj.cells #[.int .i64 c0, .int .i64 c1, .int .i64 c2, .int .i64 c3, .int .i64 c4] 23)) w5.heap.size [c0, c1, c2, c3, c4]) := ⟨blk_new w5 _⟩) | (have hX := Aside0.mk (bthen HBA.out hB5); have hY := Aside0.mk (((((hX.out.setCell (p := ⟨w4.heap.size, 0, none⟩) W4.out (.int .i64 c0)).setCell (p := ⟨w4.heap.size, 1, none⟩) W4.out (.int .i64 c1)).setCell (p := ⟨w4.heap.size, 2, none⟩) W4.out (.int .i64 c2)).setCell (p := ⟨w4.heap.size, 3, none⟩) W4.out (.int .i64 c3)).setCell (p := ⟨w4.heap.size, 4, none⟩) W4.out (.int .i64 c4)); have hC : Aside0 (CallAt w5 w4.heap.size [0, 0, 0, 0, 0]) := ⟨blk_below (blk_drew (blk_new w4 (Obj.cells #[.int .i64 0, .int .i64 0, .int .i64 0, .int .i64 0, .int .i64 0] 23))) hB5⟩); obtain ⟨u0, u1, u2, u3, u4⟩ := hC.out.five; have uf := hC.out.frozen))
                all_goals (clear s0 s1 s2 x0 x1 x2 y0 y1 y2 z0 z1 z2 z3 z4 z5 z6 z7)
                all_goals
                  refine ‹∀ (a' : Act) (w' : World), Met _ a' w' → _› _ _ ?_
                  go_meet
                  exact ⟨_, rfl, rfl, ⟨by first | (with_reducible exact hC.out) | (with_reducible exact CallAt.set5 hC.out len5z c0 c1 c2 c3 c4)⟩, ⟨hY.out⟩⟩
              case rest =>
                obtain ⟨g9, rfl, rfl, HC9, HB9⟩ := hcut
                clear ea eb el hw1 hw2 k0 k1 ht he p0 p1 p2 p3 p4 p5 m1 n3
                clear s0 s1 s2 x0 x1 x2 y0 y1 y2 z0 z1 z2 z3 z4 z5 z6 z7 zf
                obtain ⟨u0, u1, u2, u3, u4⟩ := HC9.out.five
                have HB5 := Aside0.mk (bthen HB4.out HB9.out)
                clear HB9
                obtain ⟨z0, z1, z2, z3, z4, z5, z6, z7⟩ := (HX.out.below HB5.out).eight
                have zf := (HX.out.below HB5.out).frozen
                rw [if_pos rfl, if_neg (by decide), if_neg (by decide), if_pos rfl] at hx
                by_cases hf0 : f = 0
                · subst hf0
                  rw [if_pos rfl] at hx
                  obtain ⟨rfl, rfl⟩ := Prod.mk.inj hx
                  clear hx
                  go_wp2_with fail
                  (try simp only [Exit.inBlock, Exit.then])
                  refine bodyPost_ret (ent_res (p := 2) (u := 3) _ _ w.heap.size [1, v, 0, c0, c1, c2, c3, c4] rfl rfl ((HX.out.below HB5.out).set8 rfl 1 v 0 c0 c1 c2 c3 c4) rfl) rfl ?_
                  exact ⟨rfl, below8 (bthen HB.out HB5.out) (Nat.le_refl _) 1 v 0 c0 c1 c2 c3 c4⟩
                · rw [if_neg hf0] at hx
                  obtain ⟨rfl, rfl⟩ := Prod.mk.inj hx
                  clear hx
                  have qf0 : (f == 0) = false := by simpa using hf0
                  clear hf0
                  go_wp2_with fail
                  (try simp only [Exit.inBlock, Exit.then])
                  refine bodyPost_ret (ent_res (p := 2) (u := 3) _ _ w.heap.size [0, 0, 0, 0, 0, 0, 0, 0] rfl rfl ((HX.out.below HB5.out).set8 rfl 0 0 0 0 0 0 0 0) rfl) rfl ?_
                  exact ⟨rfl, below8 (bthen HB.out HB5.out) (Nat.le_refl _) 0 0 0 0 0 0 0 0⟩
            · have e3 : ((n : Int) == 3) = false := by rw [beq_eq_false_iff_ne]; have := HN.out; omega
              have hx := HE.out
              have H3 := Aside0.mk h3
              clear h3
              go_upto_region 11 with fail
              have ea : (bs callW).size = 4 := bs_size callW
              have eb := bs_size b
              have el := bs_size l
              have hll : l.length = 4 + b.length + 2 + q.length := by rw [HQ.out.1]; simp only [List.length_append, List.length_cons, callW]; simp; omega
              have hw1 : IntKind.i64.wrap ((4 : Int) + (b.length : Int)) = (4 : Int) + (b.length : Int) := IntWalk.i64_in _ (by have := HL.out.1; omega)
              have hw2 : IntKind.i64.wrap ((4 : Int) + (b.length : Int) + 2) = (4 : Int) + (b.length : Int) + 2 := IntWalk.i64_in _ (by have := HL.out.1; omega)
              have k0 : (0 : Int) ≤ (4 : Int) + (b.length : Int) + 2 := by omega
              have k1 : (4 : Int) + (b.length : Int) + 2 ≤ (l.length : Int) := by omega
              have ht : ((4 : Int) + (b.length : Int) + 2).toNat = 4 + b.length + 2 := by omega
              have he : (bs l).extract (4 + b.length + 2) l.length = bs q := by
                rw [bs_extract, List.take_length, HQ.out.1]
                have e4 : callW ++ 32 :: (b ++ 32 :: q) = (callW ++ 32 :: (b ++ [32])) ++ q := by simp
                rw [e4, List.drop_left' (by simp [callW]; omega)]
              have HLL := Aside0.mk hll
              clear hll
              have W4 := Aside0.mk (Nat.le_refl w4.heap.size)
              go_cut [9, 10] (fun s9 s10 wy => ∃ g9 : Nat, s9 = .pointer (some ⟨g9, 0, none⟩) ∧ s10 = .int .i64 f ∧ Aside0 (CallAt wy g9 [c0, c1, c2, c3, c4]) ∧ Aside0 (Below w4.heap.size w4 wy))
              case first =>
                have HBW := Aside0.mk (below_drew (Below.refl w4.heap.size w4))
                have HBA := Aside0.mk (below_drew (ballo (Below.refl w4.heap.size w4) (Obj.cells #[.int .i64 0, .int .i64 0, .int .i64 0, .int .i64 0, .int .i64 0] 23)))
                have KS : Aside0 (∀ w', Below w4.heap.size w4 w' → (fun w' => w'.cell? ⟨gg, 0, none⟩ = some (.string (bs callW)) ∧ w'.cell? ⟨gg, 1, none⟩ = some (.string (bs b))) w') := ⟨fun w' hb => ⟨cell_below hb s0, cell_below hb s1⟩⟩
                go_region_held3 (fun w' => w'.cell? ⟨gg, 0, none⟩ = some (.string (bs callW)) ∧ w'.cell? ⟨gg, 1, none⟩ = some (.string (bs b)))
                  (first | (with_reducible exact KS.out _ HBW.out) | (with_reducible exact KS.out _ hX.out) | (with_reducible exact KS.out _ HBA.out) | (with_reducible exact KS.out _ hY0.out) | (with_reducible exact KS.out _ hY.out))
                  (first | (go_at_call 32; (with_reducible refine (refparse_calls q c0 c1 c2 c3 c4 f _ (by have h1 := HLL.out; have h2 := HL.out.1; omega) HQ.out.2).mono ?_); rintro e w5 ⟨rfl, hB5⟩; first | (have hX := Aside0.mk (bthen HBW.out hB5); have hY := Aside0.mk (ballo hX.out (Obj.cells #[.int .i64 c0, .int .i64 c1, .int .i64 c2, .int .i64 c3, .int .i64 c4] 23)); have hY0 := Aside0.mk (ballo hX.out (Obj.cells #[.int .i64 0, .int .i64 0, .int .i64 0, .int .i64 0, .int .i64 0] 23)); have hC : Aside0 (CallAt (w5.alloc (Obj.cells #[.int .i64 c0, .int .i64 c1, .int .i64 c2, .int .i64 c3, .int .i64 c4] 23)) w5.heap.size [c0, c1, c2, c3, c4]) := ⟨blk_new w5 _⟩) | (have hX := Aside0.mk (bthen HBA.out hB5); have hY := Aside0.mk (((((hX.out.setCell (p := ⟨w4.heap.size, 0, none⟩) W4.out (.int .i64 c0)).setCell (p := ⟨w4.heap.size, 1, none⟩) W4.out (.int .i64 c1)).setCell (p := ⟨w4.heap.size, 2, none⟩) W4.out (.int .i64 c2)).setCell (p := ⟨w4.heap.size, 3, none⟩) W4.out (.int .i64 c3)).setCell (p := ⟨w4.heap.size, 4, none⟩) W4.out (.int .i64 c4)); have hC : Aside0 (CallAt w5 w4.heap.size [0, 0, 0, 0, 0]) := ⟨blk_below (blk_drew (blk_new w4 (Obj.cells #[.int .i64 0, .int .i64 0, .int .i64 0, .int .i64 0, .int .i64 0] 23))) hB5⟩); obtain ⟨u0, u1, u2, u3, u4⟩ := hC.out.five; have uf := hC.out.frozen))
                all_goals (clear s0 s1 s2 x0 x1 x2 y0 y1 y2 z0 z1 z2 z3 z4 z5 z6 z7)
                all_goals
                  refine ‹∀ (a' : Act) (w' : World), Met _ a' w' → _› _ _ ?_
                  go_meet
                  exact ⟨_, rfl, rfl, ⟨by first | (with_reducible exact hC.out) | (with_reducible exact CallAt.set5 hC.out len5z c0 c1 c2 c3 c4)⟩, ⟨hY.out⟩⟩
              case rest =>
                obtain ⟨g9, rfl, rfl, HC9, HB9⟩ := hcut
                clear ea eb el hw1 hw2 k0 k1 ht he p0 p1 p2 p3 p4 p5 m1 n3
                clear s0 s1 s2 x0 x1 x2 y0 y1 y2 z0 z1 z2 z3 z4 z5 z6 z7 zf
                obtain ⟨u0, u1, u2, u3, u4⟩ := HC9.out.five
                have HB5 := Aside0.mk (bthen HB4.out HB9.out)
                clear HB9
                obtain ⟨z0, z1, z2, z3, z4, z5, z6, z7⟩ := (HX.out.below HB5.out).eight
                have zf := (HX.out.below HB5.out).frozen
                rw [if_pos rfl, if_neg (by decide), if_neg (by decide), if_pos rfl] at hx
                by_cases hf0 : f = 0
                · subst hf0
                  rw [if_pos rfl] at hx
                  obtain ⟨rfl, rfl⟩ := Prod.mk.inj hx
                  clear hx
                  go_wp2_with fail
                  (try simp only [Exit.inBlock, Exit.then])
                  refine bodyPost_ret (ent_res (p := 2) (u := 3) _ _ w.heap.size [1, v, 0, c0, c1, c2, c3, c4] rfl rfl ((HX.out.below HB5.out).set8 rfl 1 v 0 c0 c1 c2 c3 c4) rfl) rfl ?_
                  exact ⟨rfl, below8 (bthen HB.out HB5.out) (Nat.le_refl _) 1 v 0 c0 c1 c2 c3 c4⟩
                · rw [if_neg hf0] at hx
                  obtain ⟨rfl, rfl⟩ := Prod.mk.inj hx
                  clear hx
                  have qf0 : (f == 0) = false := by simpa using hf0
                  clear hf0
                  go_wp2_with fail
                  (try simp only [Exit.inBlock, Exit.then])
                  refine bodyPost_ret (ent_res (p := 2) (u := 3) _ _ w.heap.size [0, 0, 0, 0, 0, 0, 0, 0] rfl rfl ((HX.out.below HB5.out).set8 rfl 0 0 0 0 0 0 0 0) rfl) rfl ?_
                  exact ⟨rfl, below8 (bthen HB.out HB5.out) (Nat.le_refl _) 0 0 0 0 0 0 0 0⟩
        · have m1 : ((bs a).toList == [115, 116, 101, 112]) = false := by rw [bs_list, beq_eq_false_iff_ne]; exact h1
          have m2 : ((bs a).toList == [109, 111, 118, 101]) = false := by rw [bs_list, beq_eq_false_iff_ne]; exact h2
          have m3 : ((bs a).toList == [99, 97, 108, 108]) = false := by rw [bs_list, beq_eq_false_iff_ne]; exact h3
          have NS := Aside0.mk (And.intro h1 (And.intro h2 h3))
          clear h1 h2 h3
          cases is with
          | false =>
            have hx := HE.out
            rw [if_pos rfl, if_neg NS.out.1, if_neg NS.out.2.1, if_neg NS.out.2.2] at hx
            obtain ⟨rfl, rfl⟩ := Prod.mk.inj hx
            clear hx
            go_wp2_with fail
            (try simp only [Exit.inBlock, Exit.then])
            refine bodyPost_ret (ent_res (p := 2) (u := 3) _ _ w.heap.size [0, 0, 0, 0, 0, 0, 0, 0] rfl rfl ((HX.out.below HB4.out).set8 rfl 0 0 0 0 0 0 0 0) rfl) rfl ?_
            exact ⟨rfl, below8 (bthen HB.out HB4.out) (Nat.le_refl _) 0 0 0 0 0 0 0 0⟩
          | true =>
            by_cases h3 : rest.length = 0
            · have e3 : ((n : Int) == 3) = true := by rw [beq_iff_eq]; have := HN.out; omega
              have hx := HE.out
              have H3 := Aside0.mk h3
              clear h3
              rw [if_pos rfl, if_neg NS.out.1, if_neg NS.out.2.1, if_neg NS.out.2.2] at hx
              obtain ⟨rfl, rfl⟩ := Prod.mk.inj hx
              clear hx
              go_wp2_with fail
              (try simp only [Exit.inBlock, Exit.then])
              refine bodyPost_ret (ent_res (p := 2) (u := 3) _ _ w.heap.size [0, 0, 0, 0, 0, 0, 0, 0] rfl rfl ((HX.out.below HB4.out).set8 rfl 0 0 0 0 0 0 0 0) rfl) rfl ?_
              exact ⟨rfl, below8 (bthen HB.out HB4.out) (Nat.le_refl _) 0 0 0 0 0 0 0 0⟩
            · have e3 : ((n : Int) == 3) = false := by rw [beq_eq_false_iff_ne]; have := HN.out; omega
              have hx := HE.out
              have H3 := Aside0.mk h3
              clear h3
              rw [if_pos rfl, if_neg NS.out.1, if_neg NS.out.2.1, if_neg NS.out.2.2] at hx
              obtain ⟨rfl, rfl⟩ := Prod.mk.inj hx
              clear hx
              go_wp2_with fail
              (try simp only [Exit.inBlock, Exit.then])
              refine bodyPost_ret (ent_res (p := 2) (u := 3) _ _ w.heap.size [0, 0, 0, 0, 0, 0, 0, 0] rfl rfl ((HX.out.below HB4.out).set8 rfl 0 0 0 0 0 0 0 0) rfl) rfl ?_
              exact ⟨rfl, below8 (bthen HB.out HB4.out) (Nat.le_refl _) 0 0 0 0 0 0 0 0⟩
/-- assartref31.Entry tells entT. -/
theorem refent_calls (l : List UInt8) (w : World) (hl : l.length ≤ 2000000) : Calls Tryd.prog 11 #[.string (bs l)] w fun e w' => e = .returned (.tuple #[.agg ((entT l).1.map (Value.int .i64)).toArray, .int .i64 (entT l).2]) ∧ Below w.heap.size w w' := by
  by_cases h3 : (flds l).length < 3
  · rw [ent_short l h3]
    exact refent_short l w hl h3
  · obtain ⟨a, b, c, rest, hf⟩ : ∃ a b c rest, flds l = a :: b :: c :: rest := by
      match flds l, h3 with
      | [], h => exact absurd (by decide) h
      | [_], h => exact absurd (by simp) h
      | [_, _], h => exact absurd (by simp) h
      | a :: b :: c :: rest, _ => exact ⟨a, b, c, rest, rfl⟩
    obtain ⟨q, h1, h2, h4⟩ := ent_three l a b c rest hf
    have h5 : (parseT q).1.length = 5 := by
      rcases parse_back q with h | ⟨x, h, h5, _⟩
      · rw [h]; rfl
      · rw [h]; exact h5
    obtain ⟨c0, c1, c2, c3, c4, hc⟩ := list5 _ h5
    rw [hc] at h4
    exact refent_three l a b c q rest (rdV b).1 (rdV c).1 c0 c1 c2 c3 c4 (parseT q).2 (rdV b).2 (rdV c).2 w hl hf rfl rfl h2 (Prod.ext hc rfl) (entT l).1 (entT l).2 h4.symm
end Go.Proofs.YtdaagoagfenadaaDoor.X
namespace Go.Proofs.YtdaagoagfenadaaDoor.X
open Go.RowKit Go.Proofs.YtdaagoagfenadaaDoorW.PrintWords Go.Proofs.YtdaagoagfenadaaDoorW.PrintLast Go.Proofs.YtdaagoagfenadaaDoorW.PrintMore
set_option linter.unusedVariables false
set_option linter.unusedSimpArgs false
def assartref31_Line.f (a0_0 a0_1 a0_2 a0_3 a0_4 a0_5 a0_6 a0_7 : Int) : Option (ByteArray × Int) := if [a0_0, a0_1, a0_2, a0_3, a0_4, a0_5, a0_6, a0_7].all in64B = true then some (bs (lineT a0_0 a0_1 a0_2 [a0_3, a0_4, a0_5, a0_6, a0_7]).1, (lineT a0_0 a0_1 a0_2 [a0_3, a0_4, a0_5, a0_6, a0_7]).2) else none
theorem assartref31_Line.calls (a0_0 a0_1 a0_2 a0_3 a0_4 a0_5 a0_6 a0_7 : Int) (r1 : ByteArray) (r2 : Int) (w : World) (h : assartref31_Line.f a0_0 a0_1 a0_2 a0_3 a0_4 a0_5 a0_6 a0_7 = some (r1, r2)) :
    Calls Tryd.prog 9 #[.agg #[.int .i64 a0_0, .int .i64 a0_1, .int .i64 a0_2, .int .i64 a0_3, .int .i64 a0_4, .int .i64 a0_5, .int .i64 a0_6, .int .i64 a0_7]] w fun e w' => e = .returned (.tuple #[.string r1, .int .i64 r2]) ∧ Below w.heap.size w w' := by
  unfold assartref31_Line.f at h
  split at h
  · rename_i hc
    obtain ⟨rfl, rfl⟩ := Prod.mk.inj (Option.some.inj h)
    exact refline_calls a0_0 a0_1 a0_2 a0_3 a0_4 a0_5 a0_6 a0_7 w (in64B_of hc)
  · cases h
def assartref31_Entry.f (a0 : ByteArray) : Option (Int × Int × Int × Int × Int × Int × Int × Int × Int) := if a0.size ≤ 2000000 then some (t9 (entT a0.data.toList)) else none
theorem assartref31_Entry.calls (a0 : ByteArray) (r1 r2 r3 r4 r5 r6 r7 r8 r9 : Int) (w : World) (h : assartref31_Entry.f a0 = some (r1, r2, r3, r4, r5, r6, r7, r8, r9)) :
    Calls Tryd.prog 11 #[.string a0] w fun e w' => e = .returned (.tuple #[.agg #[.int .i64 r1, .int .i64 r2, .int .i64 r3, .int .i64 r4, .int .i64 r5, .int .i64 r6, .int .i64 r7, .int .i64 r8], .int .i64 r9]) ∧ Below w.heap.size w w' := by
  unfold assartref31_Entry.f at h
  split at h
  · rename_i hc
    have e := t9_eq (Option.some.inj h)
    have h2 := refent_calls a0.data.toList w (by rw [← bs_size, bs_data]; exact hc)
    rw [e, bs_data] at h2
    exact h2
  · cases h
end Go.Proofs.YtdaagoagfenadaaDoor.X

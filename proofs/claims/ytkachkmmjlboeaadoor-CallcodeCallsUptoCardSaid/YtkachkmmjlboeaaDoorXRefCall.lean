/- assartref30.Call: contract by hand. Conditions: none. -/
import Derived.Test.YtkachkmmjlboeaaDoorXRefParse
import Derived.Test.YtkachkmmjlboeaaDoorXRefReply
namespace Go.Proofs.YtkachkmmjlboeaaDoor.X
open Go.RowKit Go.Proofs.YtkachkmmjlboeaaDoor.YAll Go.Proofs.YtkachkmmjlboeaaDoorW.PrintWords Go.Proofs.YtkachkmmjlboeaaDoorW.PrintLast Go.Proofs.YtkachkmmjlboeaaDoorW.PrintMore
set_option linter.unusedVariables false
set_option linter.unusedSimpArgs false
/-- A row of part numbers, one more each. -/
def LsAt (w : World) (A : Option Addr) (ps : List Nat) : Prop := ps ≠ [] → ∃ g cells, A = some ⟨g, 0, none⟩ ∧ w.heap[g]? = some (.cells cells 3) ∧ ∀ (i p : Nat), ps[i]? = some p → cells[i]? = some (.int .i64 ((p : Int) + 1))
theorem LsAt.addr {w : World} {A : Option Addr} {ps : List Nat} (h : LsAt w A ps) (hn : ps ≠ []) : ∃ g, A = some ⟨g, 0, none⟩ := by
  obtain ⟨g, _, h1, _⟩ := h hn
  exact ⟨g, h1⟩
theorem LsAt.cell {w : World} {g : Nat} {ps : List Nat} (h : LsAt w (some ⟨g, 0, none⟩) ps) (i p : Nat) (hp : ps[i]? = some p) : w.cell? ⟨g, i, none⟩ = some (.int .i64 ((p : Int) + 1)) := by
  obtain ⟨b, cells, h1, h2, h3⟩ := h (by intro e; rw [e] at hp; cases hp)
  injection h1 with h1
  injection h1 with h1
  subst h1
  rw [blk_cell h2]
  exact h3 i p hp
theorem LsAt.below {w w' : World} {A : Option Addr} {ps : List Nat} (h : LsAt w A ps) (hb : Below w.heap.size w w') : LsAt w' A ps := fun hn => by
  obtain ⟨g, cells, h1, h2, h3⟩ := h hn
  exact ⟨g, cells, h1, blk_below h2 hb, h3⟩
theorem LsAt.set {w : World} {A : Option Addr} {ps : List Nat} {g : Nat} {t : TypeId} {cs : Array Value} (h : LsAt w A ps) (hg : w.heap[g]? = some (.cells cs t)) (ht : t ≠ 3) (i : Nat) (u : Value) : LsAt (w.setCell ⟨g, i, none⟩ u) A ps := fun hn => by
  obtain ⟨b, cells, rfl, h2, h3⟩ := h hn
  refine ⟨b, cells, rfl, blk_far h2 ?_ u, h3⟩
  rintro rfl
  rw [hg] at h2
  injection h2 with h2
  injection h2 with _ h2
  exact ht h2
theorem LsAt.set5 {w : World} {A : Option Addr} {ps : List Nat} {g : Nat} {c : List Int} (h : LsAt w A ps) (hg : CallAt w g c) (y0 y1 y2 y3 y4 : Value) : LsAt (((((w.setCell ⟨g, 0, none⟩ y0).setCell ⟨g, 1, none⟩ y1).setCell ⟨g, 2, none⟩ y2).setCell ⟨g, 3, none⟩ y3).setCell ⟨g, 4, none⟩ y4) A ps := by
  have k0 := blk_set hg 0 y0
  have k1 := blk_set k0 1 y1
  have k2 := blk_set k1 2 y2
  have k3 := blk_set k2 3 y3
  exact LsAt.set (LsAt.set (LsAt.set (LsAt.set (LsAt.set h hg (by decide) 0 y0) k0 (by decide) 1 y1) k1 (by decide) 2 y2) k2 (by decide) 3 y3) k3 (by decide) 4 y4
theorem CallAt.far5 {w : World} {b g : Nat} {c : List Int} (h : CallAt w b c) (hn : b ≠ g) (y0 y1 y2 y3 y4 : Value) : CallAt (((((w.setCell ⟨g, 0, none⟩ y0).setCell ⟨g, 1, none⟩ y1).setCell ⟨g, 2, none⟩ y2).setCell ⟨g, 3, none⟩ y3).setCell ⟨g, 4, none⟩ y4) b c :=
  ((((h.far 0 y0 hn).far 1 y1 hn).far 2 y2 hn).far 3 y3 hn).far 4 y4 hn
theorem refform_calls (kd : Int) (W : List UInt8) (ps : List Nat) (w : World) (h : assartref30_form.f kd = some (bs W, ps.map fun (p : Nat) => (p : Int) + 1)) :
    Calls Tryd.prog 29 #[.int .i64 kd] w fun e w' => ∃ A cap, e = .returned (.tuple #[.string (bs W), .slice A ps.length cap]) ∧ LsAt w' A ps ∧ Below w.heap.size w w' :=
  (assartref30_form.calls kd _ _ w h).mono fun e w' ⟨v, he, hR, hB⟩ => by
    obtain ⟨A, cap, hv, _, hC⟩ := Kd.R_reads hR
    subst hv
    rw [List.length_map] at he
    refine ⟨A, cap, he, fun hn => ?_, hB⟩
    obtain ⟨g, cap2, hv, _, _, cells, hcl⟩ := Kd.R_form hR (by rw [List.length_map]; exact List.length_pos_iff.2 hn)
    injection hv with h1 h2 h3
    subst h1
    refine ⟨g, cells, rfl, hcl, fun i p hp => ?_⟩
    obtain ⟨_, _, hD⟩ := hC
    obtain ⟨a, ha, hcell⟩ := hD (by rw [List.length_map]; exact List.length_pos_iff.2 hn)
    obtain rfl := Option.some.inj ha
    obtain ⟨cs, h1, h2, h3⟩ := hcell i ((p : Int) + 1) (by rw [List.getElem?_map, hp]; rfl)
    have hk : cs = [.int .i64 ((p : Int) + 1)] := h2
    subst hk
    have := h3 0 _ rfl
    rw [Addr.add_lit, show (0 : Nat) + (i * (Kd.int .i64).sz + 0) = i by rw [show (Kd.int .i64).sz = 1 from rfl]; omega, blk_cell hcl] at this
    exact this
def txtC (W : List UInt8) (c : List Int) (ps : List Nat) : List UInt8 := W ++ ps.flatMap fun p => 32 :: numL (c.getD (p + 1) 0)
theorem txtC_next (W : List UInt8) (c : List Int) (ps : List Nat) (i : Nat) (h : i < ps.length) : txtC W c (ps.take (i + 1)) = txtC W c (ps.take i) ++ [32] ++ numL (c.getD (ps[i] + 1) 0) := by
  unfold txtC
  rw [take_next ps i h, List.flatMap_append]
  simp
theorem txtC_len (W : List UInt8) (c : List Int) (hc : ∀ x ∈ c, In64 x) : ∀ ps : List Nat, (txtC W c ps).length ≤ W.length + 21 * ps.length := by
  intro ps
  unfold txtC
  rw [List.length_append]
  induction ps with
  | nil => simp
  | cons p ps ih =>
    rw [List.flatMap_cons, List.length_append, List.length_cons, List.length_cons]
    have := numL_len (c.getD (p + 1) 0) (getD_in c hc _)
    omega
set_option maxRecDepth 100000 in
set_option maxHeartbeats 20000000 in
theorem refcall_gen (kd a s al v : Int) (W : List UInt8) (ps : List Nat) (w : World) (hc : ∀ x ∈ [kd, a, s, al, v], In64 x) (hf : assartref30_form.f kd = some (bs W, ps.map fun (p : Nat) => (p : Int) + 1)) (hp4 : ∀ p ∈ ps, p < 4) (hp2 : ps.length ≤ 2) (hW : W.length ≤ 10) (z : List UInt8 × Int)
    (hz : z = if txtC W [kd, a, s, al, v] ps = [] ∨ plainC [kd, a, s, al, v] ps ≠ [kd, a, s, al, v] then ([], 2) else (txtC W [kd, a, s, al, v] ps, 0)) :
    Calls Tryd.prog 17 #[.agg #[.int .i64 kd, .int .i64 a, .int .i64 s, .int .i64 al, .int .i64 v]] w fun e w' => e = .returned (.tuple #[.string (bs z.1), .int .i64 z.2]) ∧ Below w.heap.size w w' := by
  have HC := Aside0.mk hc
  have HF := Aside0.mk hf
  have HP4 := Aside0.mk hp4
  have HP2 := Aside0.mk hp2
  have HWL := Aside0.mk hW
  have HZ := Aside0.mk hz
  clear hc hf hp4 hp2 hW hz
  go_enter Tryd.func17, Tryd.ntmps17
  have BX : CallAt (w.alloc (Obj.cells #[.int .i64 kd, .int .i64 a, .int .i64 s, .int .i64 al, .int .i64 v] 32)) w.heap.size [kd, a, s, al, v] := blk_new w _
  have BB := ballo (Below.refl w.heap.size w) (Obj.cells #[.int .i64 kd, .int .i64 a, .int .i64 s, .int .i64 al, .int .i64 v] 32)
  go_upto_region 1 with fail
  generalize hw1 : w.alloc (Obj.cells #[.int .i64 kd, .int .i64 a, .int .i64 s, .int .i64 al, .int .i64 v] 32) = w1 at *
  have HL1 : Aside0 (w1.heap.size = w.heap.size + 1) := ⟨by rw [← hw1]; exact size_al _ _⟩
  clear hw1
  obtain ⟨b0, b1, b2, b3, b4⟩ := BX.five
  have HQ := Aside0.mk BX
  have HB0 := Aside0.mk BB
  clear BX BB
  go_wp2_with (go_at_call 29; (with_reducible refine (refform_calls kd W ps _ HF.out).mono ?_); rintro e w2 ⟨A, cap, rfl, hLs, hB2⟩; have HLs := Aside0.mk hLs; have HB2 := Aside0.mk hB2; obtain ⟨d0, d1, d2, d3, d4⟩ := (HQ.out.below hB2).five; clear hLs hB2)
  have HA3 : Aside0 (CallAt (w2.alloc (Obj.cells #[.int .i64 kd, .int .i64 0, .int .i64 0, .int .i64 0, .int .i64 0] 32)) w.heap.size [kd, a, s, al, v]) := ⟨(HQ.out.below HB2.out).alloc _⟩
  have HQ3 : Aside0 (CallAt (w2.alloc (Obj.cells #[.int .i64 kd, .int .i64 0, .int .i64 0, .int .i64 0, .int .i64 0] 32)) w2.heap.size (plainC [kd, a, s, al, v] [])) := ⟨blk_new w2 _⟩
  have HL3 : Aside0 (LsAt (w2.alloc (Obj.cells #[.int .i64 kd, .int .i64 0, .int .i64 0, .int .i64 0, .int .i64 0] 32)) A ps) := ⟨HLs.out.below (ballo (Below.refl _ _) _)⟩
  have HB3 : Aside0 (Below w.heap.size w (w2.alloc (Obj.cells #[.int .i64 kd, .int .i64 0, .int .i64 0, .int .i64 0, .int .i64 0] 32))) := ⟨ballo (bthen HB0.out HB2.out) _⟩
  have HN3 : Aside0 (w.heap.size < w2.heap.size) := ⟨by have h1 := HL1.out; have h2 := HB2.out.size; omega⟩
  generalize w2.alloc (Obj.cells #[.int .i64 kd, .int .i64 0, .int .i64 0, .int .i64 0, .int .i64 0] 32) = w3 at *
  generalize w2.heap.size = q at *
  clear HQ HB0 HB2 HLs b0 b1 b2 b3 b4 d0 d1 d2 d3 d4 HL1
  have hn0 : (0 : Int) ≤ (ps.length : Int) := by omega
  have hT0 : bs W = bs (txtC W [kd, a, s, al, v] []) := by unfold txtC; rw [List.flatMap_nil, List.append_nil]
  obtain ⟨B0, hB0⟩ : ∃ B0, bs W = B0 := ⟨_, rfl⟩
  rw [hB0]
  have HB0B := Aside0.mk (hB0.symm.trans hT0)
  clear hT0 hB0
  go_loopg [4, 7] ps.length (fun kq v4 v7 w' => ∃ (i : Int), v7 = .int .i64 i ∧ 0 ≤ i ∧ i + (kq : Int) = (ps.length : Int) ∧ v4 = .string (bs (txtC W [kd, a, s, al, v] (ps.take i.toNat))) ∧ Aside0 (CallAt w' w.heap.size [kd, a, s, al, v]) ∧ Aside0 (CallAt w' q (plainC [kd, a, s, al, v] (ps.take i.toNat))) ∧ Aside0 (LsAt w' A ps) ∧ Aside0 (Below w.heap.size w w'))
  case atStart => exact ⟨0, rfl, Int.le_refl _, by omega, by rw [HB0B.out]; rfl, HA3, HQ3, HL3, HB3⟩
  case round =>
    obtain ⟨i, rfl, hi0, hi, rfl, HA, HQ, HL, HB⟩ := hrel
    clear HA3 HQ3 HL3 HB3
    cases gk with
    | zero =>
      have hlt : decide (i < (ps.length : Int)) = false := decide_eq_false (by omega)
      have et : ps.take i.toNat = ps := List.take_of_length_le (by omega)
      rw [et] at HQ
      rw [et]
      obtain ⟨y0, y1, y2, y3, y4, hy⟩ := list5 _ (plainC_len [kd, a, s, al, v] ps)
      have HQ2 := HQ.out
      rw [hy] at HQ2
      obtain ⟨q0, q1, q2, q3, q4⟩ := HQ2.five
      obtain ⟨a0, a1, a2, a3, a4⟩ := HA.out.five
      have HY := Aside0.mk hy
      clear hy HQ2
      obtain ⟨T, hT⟩ : ∃ T, txtC W [kd, a, s, al, v] ps = T := ⟨_, rfl⟩
      rw [hT]
      have HT := Aside0.mk hT
      clear hT
      by_cases h0 : T = []
      · subst h0
        have hem : (bs []).toList = [] := bs_list []
        go_wp2_with fail
        go_ret2
        refine ⟨?_, HB.out⟩
        rw [HZ.out, if_pos (.inl HT.out)]
        rfl
      · have H0 := Aside0.mk h0
        have hem : ((bs T).toList = []) = False := eq_false (by rw [bs_list]; exact h0)
        have hem2 : (bs T).toList.isEmpty = false := by rw [bs_list]; simpa using h0
        clear h0
        go_wp2_with fail
        all_goals
          go_ret2
          refine ⟨?_, HB.out⟩
          first
            | (rw [HZ.out, if_pos (Or.inr (fun e => by
                have e2 := HY.out.symm.trans e
                simp only [List.cons.injEq, and_true] at e2
                obtain ⟨e0, e1, e2, e3, e4⟩ := e2
                contradiction))]
               rfl)
            | (rw [HZ.out, HT.out, if_neg (fun h => h.elim H0.out (fun h2 => h2 (by rw [HY.out]; simp [*])))]
               rfl)
    | succ gk =>
      have hlt : decide (i < (ps.length : Int)) = true := decide_eq_true (by omega)
      have hlt2 : i < (ps.length : Int) := by omega
      have hin : i.toNat < ps.length := by omega
      obtain ⟨g, rfl⟩ := HL.out.addr (by intro e; rw [e] at hin; cases hin)
      obtain ⟨p, hp⟩ : ∃ p, ps[i.toNat] = p := ⟨_, rfl⟩
      have hp4 : p < 4 := by rw [← hp]; exact HP4.out _ (List.getElem_mem _)
      have hpi : ps[i.toNat]? = some p := by rw [List.getElem?_eq_getElem hin, hp]
      obtain ⟨x, hx⟩ : ∃ x, ([kd, a, s, al, v] : List Int).getD (p + 1) 0 = x := ⟨_, rfl⟩
      have hxI : In64 x := by rw [← hx]; exact getD_in _ HC.out _
      have hat : assartref30_at.f kd a s al v ((p : Int) + 1) = some x := by rw [at_f p hp4, hx]
      obtain ⟨y0, y1, y2, y3, y4, hy⟩ := list5 _ (plainC_len [kd, a, s, al, v] (ps.take i.toNat))
      obtain ⟨u0, u1, u2, u3, u4, hu, hwf⟩ := with_f p hp4 y0 y1 y2 y3 y4 x
      have HQ2 := HQ.out
      rw [hy] at HQ2
      obtain ⟨q0, q1, q2, q3, q4⟩ := HQ2.five
      obtain ⟨a0, a1, a2, a3, a4⟩ := HA.out.five
      have ce := HL.out.cell i.toNat p hpi
      obtain ⟨T, hT⟩ : ∃ T, txtC W [kd, a, s, al, v] (ps.take i.toNat) = T := ⟨_, rfl⟩
      have hTl : T.length ≤ 100 := by
        have h1 := txtC_len W [kd, a, s, al, v] HC.out (ps.take i.toNat)
        have h2 := HWL.out
        have h3 := HP2.out
        rw [List.length_take] at h1
        rw [← hT]
        omega
      rw [hT]
      have HXX := Aside0.mk (And.intro hp (And.intro hp4 (And.intro hpi (And.intro hx (And.intro hxI (And.intro hat (And.intro hy (And.intro hu (And.intro hwf (And.intro hT hTl))))))))))
      have HQY := Aside0.mk HQ2
      clear hp hp4 hpi hx hxI hat hy hu hwf hT hTl HQ2
      go_upto_region 6 with fail
      go_cut [34] (fun s34 wx => Aside0 (CallAt wx q [u0, u1, u2, u3, u4]) ∧ Aside0 (CallAt wx w.heap.size [kd, a, s, al, v]) ∧ Aside0 (LsAt wx (some ⟨g, 0, none⟩) ps) ∧ Aside0 (Below w.heap.size w wx))
      case first =>
        have KS : Aside0 (∀ w', Below wr.heap.size wr w' → (fun w' => w'.cell? ⟨w.heap.size, 0, none⟩ = some (.int .i64 kd) ∧ w'.cell? ⟨w.heap.size, 1, none⟩ = some (.int .i64 a) ∧ w'.cell? ⟨w.heap.size, 2, none⟩ = some (.int .i64 s) ∧ w'.cell? ⟨w.heap.size, 3, none⟩ = some (.int .i64 al) ∧ w'.cell? ⟨w.heap.size, 4, none⟩ = some (.int .i64 v) ∧ w'.cell? ⟨g, i.toNat, none⟩ = some (.int .i64 ((p : Int) + 1))) w') := ⟨fun w' hb => ⟨pw_cell_below hb a0, pw_cell_below hb a1, pw_cell_below hb a2, pw_cell_below hb a3, pw_cell_below hb a4, pw_cell_below hb ce⟩⟩
        have HBW := Aside0.mk (below_drew (Below.refl wr.heap.size wr))
        obtain ⟨e0, e1, e2, e3, e4⟩ := (HQY.out.below HBW.out).five
        have KSET : ∀ w', Below wr.heap.size wr w' → (fun w' => w'.cell? ⟨w.heap.size, 0, none⟩ = some (.int .i64 kd) ∧ w'.cell? ⟨w.heap.size, 1, none⟩ = some (.int .i64 a) ∧ w'.cell? ⟨w.heap.size, 2, none⟩ = some (.int .i64 s) ∧ w'.cell? ⟨w.heap.size, 3, none⟩ = some (.int .i64 al) ∧ w'.cell? ⟨w.heap.size, 4, none⟩ = some (.int .i64 v) ∧ w'.cell? ⟨g, i.toNat, none⟩ = some (.int .i64 ((p : Int) + 1))) (((((w'.setCell ⟨q, 0, none⟩ (.int .i64 u0)).setCell ⟨q, 1, none⟩ (.int .i64 u1)).setCell ⟨q, 2, none⟩ (.int .i64 u2)).setCell ⟨q, 3, none⟩ (.int .i64 u3)).setCell ⟨q, 4, none⟩ (.int .i64 u4)) := fun w' hb => by
          obtain ⟨g0, g1, g2, g3, g4⟩ := ((HA.out.below hb).far5 (Nat.ne_of_lt HN3.out) (.int .i64 u0) (.int .i64 u1) (.int .i64 u2) (.int .i64 u3) (.int .i64 u4)).five
          exact ⟨g0, g1, g2, g3, g4, ((HL.out.below hb).set5 (HQY.out.below hb) (.int .i64 u0) (.int .i64 u1) (.int .i64 u2) (.int .i64 u3) (.int .i64 u4)).cell i.toNat p HXX.out.2.2.1⟩
        have KSET := Aside0.mk KSET
        clear q0 q1 q2 q3 q4 a0 a1 a2 a3 a4 ce
        refine wp_region_held_drew (S := fun w' => w'.cell? ⟨w.heap.size, 0, none⟩ = some (.int .i64 kd) ∧ w'.cell? ⟨w.heap.size, 1, none⟩ = some (.int .i64 a) ∧ w'.cell? ⟨w.heap.size, 2, none⟩ = some (.int .i64 s) ∧ w'.cell? ⟨w.heap.size, 3, none⟩ = some (.int .i64 al) ∧ w'.cell? ⟨w.heap.size, 4, none⟩ = some (.int .i64 v) ∧ w'.cell? ⟨g, i.toNat, none⟩ = some (.int .i64 ((p : Int) + 1))) (by kernel_rfl) (by first | exact (KS.out _ HBW.out) | (dsimp only; exact (KS.out _ HBW.out))) (fun hS => ?_)
        refine wpAnyH_take (i := 1) (v := ?_) rfl (by kernel_rfl) (by kernel_rfl) (by kernel_rfl) (fun _ _ _ h => h) (Or.inl ⟨by rfl, ?_⟩) hS ?_
        rotate_left
        · intro wS hW; (try dsimp only at hW); obtain ⟨W0, W1, W2, W3, W4, W5⟩ := hW; go_simp; (try with_reducible rfl)
        try simp only [List.getElem_toArray, List.getElem_cons_zero, List.getElem_cons_succ, Act.put, List.setIfInBounds_toArray, List.set_cons_zero, List.set_cons_succ]
        refine wpAnyH_take (i := 2) (v := ?_) rfl (by kernel_rfl) (by kernel_rfl) (by kernel_rfl) (fun _ _ _ h => h) (Or.inl ⟨by rfl, ?_⟩) hS ?_
        rotate_left
        · intro wS hW; (try dsimp only at hW); obtain ⟨W0, W1, W2, W3, W4, W5⟩ := hW; go_simp; (try with_reducible rfl)
        try simp only [List.getElem_toArray, List.getElem_cons_zero, List.getElem_cons_succ, Act.put, List.setIfInBounds_toArray, List.set_cons_zero, List.set_cons_succ]
        refine wpAnyH_take (i := 3) (v := ?_) rfl (by kernel_rfl) (by kernel_rfl) (by kernel_rfl) (fun _ _ _ h => h) (Or.inl ⟨by rfl, ?_⟩) hS ?_
        rotate_left
        · intro wS hW; (try dsimp only at hW); obtain ⟨W0, W1, W2, W3, W4, W5⟩ := hW; go_simp; (try with_reducible rfl)
        try simp only [List.getElem_toArray, List.getElem_cons_zero, List.getElem_cons_succ, Act.put, List.setIfInBounds_toArray, List.set_cons_zero, List.set_cons_succ]
        refine wpAnyH_take (i := 4) (v := ?_) rfl (by kernel_rfl) (by kernel_rfl) (by kernel_rfl) (fun _ _ _ h => h) (Or.inl ⟨by rfl, ?_⟩) hS ?_
        rotate_left
        · intro wS hW; (try dsimp only at hW); obtain ⟨W0, W1, W2, W3, W4, W5⟩ := hW; go_simp; (try with_reducible rfl)
        try simp only [List.getElem_toArray, List.getElem_cons_zero, List.getElem_cons_succ, Act.put, List.setIfInBounds_toArray, List.set_cons_zero, List.set_cons_succ]
        refine wpAnyH_take (i := 5) (v := ?_) rfl (by kernel_rfl) (by kernel_rfl) (by kernel_rfl) (fun _ _ _ h => h) (Or.inl ⟨by rfl, ?_⟩) hS ?_
        rotate_left
        · intro wS hW; (try dsimp only at hW); obtain ⟨W0, W1, W2, W3, W4, W5⟩ := hW; go_simp; (try with_reducible rfl)
        try simp only [List.getElem_toArray, List.getElem_cons_zero, List.getElem_cons_succ, Act.put, List.setIfInBounds_toArray, List.set_cons_zero, List.set_cons_succ]
        refine wpAnyH_take (i := 6) (v := ?_) rfl (by kernel_rfl) (by kernel_rfl) (by kernel_rfl) (fun _ _ _ h => h) (Or.inl ⟨by rfl, ?_⟩) hS ?_
        rotate_left
        · intro wS hW; (try dsimp only at hW); obtain ⟨W0, W1, W2, W3, W4, W5⟩ := hW; go_simp; (try with_reducible rfl)
        try simp only [List.getElem_toArray, List.getElem_cons_zero, List.getElem_cons_succ, Act.put, List.setIfInBounds_toArray, List.set_cons_zero, List.set_cons_succ]
        refine wpAnyH_take (i := 7) (v := ?_) rfl (by kernel_rfl) (by kernel_rfl) (by kernel_rfl) (fun _ _ _ h => h) (Or.inl ⟨by rfl, ?_⟩) hS ?_
        rotate_left
        · intro wS hW; (try dsimp only at hW); obtain ⟨W0, W1, W2, W3, W4, W5⟩ := hW; go_simp; (try with_reducible rfl)
        try simp only [List.getElem_toArray, List.getElem_cons_zero, List.getElem_cons_succ, Act.put, List.setIfInBounds_toArray, List.set_cons_zero, List.set_cons_succ]
        refine wpAnyH_take (i := 8) (v := ?_) rfl (by kernel_rfl) (by kernel_rfl) (by kernel_rfl) (fun _ _ _ h => h) (Or.inl ⟨by rfl, ?_⟩) hS ?_
        rotate_left
        · intro wS hW; (try dsimp only at hW); obtain ⟨W0, W1, W2, W3, W4, W5⟩ := hW; go_simp; (try with_reducible rfl)
        try simp only [List.getElem_toArray, List.getElem_cons_zero, List.getElem_cons_succ, Act.put, List.setIfInBounds_toArray, List.set_cons_zero, List.set_cons_succ]
        refine wpAnyH_take (i := 9) (v := ?_) rfl (by kernel_rfl) (by kernel_rfl) (by kernel_rfl) (fun _ _ _ h => h) (Or.inl ⟨by rfl, ?_⟩) hS ?_
        rotate_left
        · intro wS hW; (try dsimp only at hW); obtain ⟨W0, W1, W2, W3, W4, W5⟩ := hW; go_simp; (try with_reducible rfl)
        try simp only [List.getElem_toArray, List.getElem_cons_zero, List.getElem_cons_succ, Act.put, List.setIfInBounds_toArray, List.set_cons_zero, List.set_cons_succ]
        refine wpAnyH_ready (rs := [0, 10]) (by kernel_rfl) (by simp) ?_
        refine AllReadyH.cons rfl (fun K hK => ?_) (AllReadyH.cons rfl (fun K hK => ?_) AllReadyH.nil)
        · try simp only [List.getElem_toArray, List.getElem_cons_zero, List.getElem_cons_succ, Act.put, List.setIfInBounds_toArray, List.set_cons_zero, List.set_cons_succ]
          go_simp
          refine hK.out _ _ (by first | exact (KS.out _ HBW.out) | (dsimp only; exact (KS.out _ HBW.out))) (fun hS2 => ?_)
          clear hS hK K
          have hS := hS2
          clear hS2
          try simp only [List.getElem_toArray, List.getElem_cons_zero, List.getElem_cons_succ, Act.put, List.setIfInBounds_toArray, List.set_cons_zero, List.set_cons_succ]
          refine wpAnyH_ready (rs := [10]) (by kernel_rfl) (by simp) ?_
          refine AllReadyH.cons rfl (fun K hK => ?_) AllReadyH.nil
          try simp only [List.getElem_toArray, List.getElem_cons_zero, List.getElem_cons_succ, Act.put, List.setIfInBounds_toArray, List.set_cons_zero, List.set_cons_succ]
          go_simp
          refine (assartref30_at.calls kd a s al v ((p : Int) + 1) x _ HXX.out.2.2.2.2.2.1).mono ?_
          rintro e w8 ⟨rfl, hB8⟩
          have hX := Aside0.mk (bthen HBW.out hB8)
          refine hK.out _ _ (by first | exact (KS.out _ hX.out) | (dsimp only; exact (KS.out _ hX.out))) (fun hS2 => ?_)
          clear hS hK K
          have hS := hS2
          clear hS2
          try simp only [List.getElem_toArray, List.getElem_cons_zero, List.getElem_cons_succ, Act.put, List.setIfInBounds_toArray, List.set_cons_zero, List.set_cons_succ]
          refine wpAnyH_ready (rs := [11]) (by kernel_rfl) (by simp) ?_
          refine AllReadyH.cons rfl (fun K hK => ?_) AllReadyH.nil
          try simp only [List.getElem_toArray, List.getElem_cons_zero, List.getElem_cons_succ, Act.put, List.setIfInBounds_toArray, List.set_cons_zero, List.set_cons_succ]
          go_simp
          refine (assartref30_with.calls y0 y1 y2 y3 y4 ((p : Int) + 1) x u0 u1 u2 u3 u4 _ HXX.out.2.2.2.2.2.2.2.2.1).mono ?_
          rintro e w9 ⟨rfl, hB9⟩
          have hY := Aside0.mk (bthen hX.out hB9)
          have HQ9 := Aside0.mk (HQY.out.below hY.out)
          obtain ⟨r0, r1, r2, r3, r4⟩ := HQ9.out.five
          have rf := HQ9.out.frozen
          have HS9 := Aside0.mk (KSET.out _ hY.out)
          refine hK.out _ _ (by first | exact (KS.out _ hY.out) | (dsimp only; exact (KS.out _ hY.out))) (fun hS2 => ?_)
          clear hS hK K
          have hS := hS2
          clear hS2
          try simp only [List.getElem_toArray, List.getElem_cons_zero, List.getElem_cons_succ, Act.put, List.setIfInBounds_toArray, List.set_cons_zero, List.set_cons_succ]
          refine wpAnyH_ready (rs := [12]) (by kernel_rfl) (by simp) ?_
          refine AllReadyH.cons rfl (fun K hK => ?_) AllReadyH.nil
          try simp only [List.getElem_toArray, List.getElem_cons_zero, List.getElem_cons_succ, Act.put, List.setIfInBounds_toArray, List.set_cons_zero, List.set_cons_succ]
          go_simp
          refine hK.out _ _ (by first | exact HS9.out | (dsimp only; exact HS9.out)) (fun hS2 => ?_)
          clear hS hK K
          have hS := hS2
          clear hS2
          try simp only [List.getElem_toArray, List.getElem_cons_zero, List.getElem_cons_succ, Act.put, List.setIfInBounds_toArray, List.set_cons_zero, List.set_cons_succ]
          refine wpAnyH_done (by kernel_rfl) ?_ _
          clear hS
          go_wp2_with fail
          go_meet
          exact ⟨⟨HQ9.out.set5 rfl u0 u1 u2 u3 u4⟩, ⟨(HA.out.below hY.out).far5 (Nat.ne_of_lt HN3.out) _ _ _ _ _⟩, ⟨(HL.out.below hY.out).set5 HQ9.out _ _ _ _ _⟩, ⟨below5 (bthen HB.out hY.out) (Nat.le_of_lt HN3.out) _ _ _ _ _⟩⟩
        · try simp only [List.getElem_toArray, List.getElem_cons_zero, List.getElem_cons_succ, Act.put, List.setIfInBounds_toArray, List.set_cons_zero, List.set_cons_succ]
          go_simp
          refine (assartref30_at.calls kd a s al v ((p : Int) + 1) x _ HXX.out.2.2.2.2.2.1).mono ?_
          rintro e w8 ⟨rfl, hB8⟩
          have hX := Aside0.mk (bthen HBW.out hB8)
          obtain ⟨r0, r1, r2, r3, r4⟩ := (HQY.out.below hX.out).five
          refine hK.out _ _ (by first | exact (KS.out _ hX.out) | (dsimp only; exact (KS.out _ hX.out))) (fun hS2 => ?_)
          clear hS hK K
          have hS := hS2
          clear hS2
          try simp only [List.getElem_toArray, List.getElem_cons_zero, List.getElem_cons_succ, Act.put, List.setIfInBounds_toArray, List.set_cons_zero, List.set_cons_succ]
          refine wpAnyH_ready (rs := [0]) (by kernel_rfl) (by simp) ?_
          refine AllReadyH.cons rfl (fun K hK => ?_) AllReadyH.nil
          try simp only [List.getElem_toArray, List.getElem_cons_zero, List.getElem_cons_succ, Act.put, List.setIfInBounds_toArray, List.set_cons_zero, List.set_cons_succ]
          go_simp
          refine hK.out _ _ (by first | exact (KS.out _ hX.out) | (dsimp only; exact (KS.out _ hX.out))) (fun hS2 => ?_)
          clear hS hK K
          have hS := hS2
          clear hS2
          try simp only [List.getElem_toArray, List.getElem_cons_zero, List.getElem_cons_succ, Act.put, List.setIfInBounds_toArray, List.set_cons_zero, List.set_cons_succ]
          refine wpAnyH_ready (rs := [11]) (by kernel_rfl) (by simp) ?_
          refine AllReadyH.cons rfl (fun K hK => ?_) AllReadyH.nil
          try simp only [List.getElem_toArray, List.getElem_cons_zero, List.getElem_cons_succ, Act.put, List.setIfInBounds_toArray, List.set_cons_zero, List.set_cons_succ]
          go_simp
          refine (assartref30_with.calls y0 y1 y2 y3 y4 ((p : Int) + 1) x u0 u1 u2 u3 u4 _ HXX.out.2.2.2.2.2.2.2.2.1).mono ?_
          rintro e w9 ⟨rfl, hB9⟩
          have hY := Aside0.mk (bthen hX.out hB9)
          have HQ9 := Aside0.mk (HQY.out.below hY.out)
          obtain ⟨r0, r1, r2, r3, r4⟩ := HQ9.out.five
          have rf := HQ9.out.frozen
          have HS9 := Aside0.mk (KSET.out _ hY.out)
          refine hK.out _ _ (by first | exact (KS.out _ hY.out) | (dsimp only; exact (KS.out _ hY.out))) (fun hS2 => ?_)
          clear hS hK K
          have hS := hS2
          clear hS2
          try simp only [List.getElem_toArray, List.getElem_cons_zero, List.getElem_cons_succ, Act.put, List.setIfInBounds_toArray, List.set_cons_zero, List.set_cons_succ]
          refine wpAnyH_ready (rs := [12]) (by kernel_rfl) (by simp) ?_
          refine AllReadyH.cons rfl (fun K hK => ?_) AllReadyH.nil
          try simp only [List.getElem_toArray, List.getElem_cons_zero, List.getElem_cons_succ, Act.put, List.setIfInBounds_toArray, List.set_cons_zero, List.set_cons_succ]
          go_simp
          refine hK.out _ _ (by first | exact HS9.out | (dsimp only; exact HS9.out)) (fun hS2 => ?_)
          clear hS hK K
          have hS := hS2
          clear hS2
          try simp only [List.getElem_toArray, List.getElem_cons_zero, List.getElem_cons_succ, Act.put, List.setIfInBounds_toArray, List.set_cons_zero, List.set_cons_succ]
          refine wpAnyH_done (by kernel_rfl) ?_ _
          clear hS
          go_wp2_with fail
          go_meet
          exact ⟨⟨HQ9.out.set5 rfl u0 u1 u2 u3 u4⟩, ⟨(HA.out.below hY.out).far5 (Nat.ne_of_lt HN3.out) _ _ _ _ _⟩, ⟨(HL.out.below hY.out).set5 HQ9.out _ _ _ _ _⟩, ⟨below5 (bthen HB.out hY.out) (Nat.le_of_lt HN3.out) _ _ _ _ _⟩⟩
      case rest =>
        obtain ⟨x7, rfl⟩ : ∃ x : World, x = wc := ⟨_, rfl⟩
        obtain ⟨HQ7, HA7, HL7, HB7⟩ := hcut
        clear q0 q1 q2 q3 q4 a0 a1 a2 a3 a4 ce
        obtain ⟨a0, a1, a2, a3, a4⟩ := HA7.out.five
        have ce := HL7.out.cell i.toNat p HXX.out.2.2.1
        go_upto_region 7 with fail
        have KS : Aside0 (∀ w', Below x7.heap.size x7 w' → (fun w' => w'.cell? ⟨w.heap.size, 0, none⟩ = some (.int .i64 kd) ∧ w'.cell? ⟨w.heap.size, 1, none⟩ = some (.int .i64 a) ∧ w'.cell? ⟨w.heap.size, 2, none⟩ = some (.int .i64 s) ∧ w'.cell? ⟨w.heap.size, 3, none⟩ = some (.int .i64 al) ∧ w'.cell? ⟨w.heap.size, 4, none⟩ = some (.int .i64 v) ∧ w'.cell? ⟨g, i.toNat, none⟩ = some (.int .i64 ((p : Int) + 1))) w') := ⟨fun w' hb => ⟨pw_cell_below hb a0, pw_cell_below hb a1, pw_cell_below hb a2, pw_cell_below hb a3, pw_cell_below hb a4, pw_cell_below hb ce⟩⟩
        have HBW := Aside0.mk (below_drew (Below.refl x7.heap.size x7))
        have hsT := bs_size T
        have hTl := HXX.out.2.2.2.2.2.2.2.2.2.2
        have hnl := numL_len x HXX.out.2.2.2.2.1
        have hsz := bs_size (numL x)
        have f1 : (9223372036854775807 < T.length + 1) = False := eq_false (by omega)
        have f2 : (9223372036854775807 < T.length + 1 + (numL x).length) = False := eq_false (by omega)
        have f3 : decide (9223372036854775807 < T.length + 1) = false := decide_eq_false (by omega)
        have f4 : decide (9223372036854775807 < T.length + 1 + (numL x).length) = false := decide_eq_false (by omega)
        clear a0 a1 a2 a3 a4 ce hTl hnl
        go_region_held3 (fun w' => w'.cell? ⟨w.heap.size, 0, none⟩ = some (.int .i64 kd) ∧ w'.cell? ⟨w.heap.size, 1, none⟩ = some (.int .i64 a) ∧ w'.cell? ⟨w.heap.size, 2, none⟩ = some (.int .i64 s) ∧ w'.cell? ⟨w.heap.size, 3, none⟩ = some (.int .i64 al) ∧ w'.cell? ⟨w.heap.size, 4, none⟩ = some (.int .i64 v) ∧ w'.cell? ⟨g, i.toNat, none⟩ = some (.int .i64 ((p : Int) + 1)))
          (first | (with_reducible exact KS.out _ HBW.out) | (with_reducible exact KS.out _ hX.out) | (with_reducible exact KS.out _ hY.out))
          (first
            | (go_at_call 31; (with_reducible refine (assartref30_at.calls kd a s al v ((p : Int) + 1) x _ HXX.out.2.2.2.2.2.1).mono ?_); rintro e w8 ⟨rfl, hB8⟩; have hX := Aside0.mk (bthen HBW.out hB8))
            | (go_at_call 11; (with_reducible refine (refnum_calls x _ HXX.out.2.2.2.2.1).mono ?_); rintro e w9 ⟨rfl, hB9⟩; have hY := Aside0.mk (bthen hX.out hB9)))
        all_goals go_wp2_with fail
        go_roundg gk
        case measure => omega
        case rel =>
          have e1 : (i + 1).toNat = i.toNat + 1 := by omega
          have et := txtC_next W [kd, a, s, al, v] ps i.toNat hin
          have ep := plainC_next [kd, a, s, al, v] ps i.toNat hin
          obtain ⟨hp, hp4, hpi, hx, hxI, hat, hy, hu, hwf, hT, hTl⟩ := HXX.out
          rw [hp, hx, hT] at et
          rw [hp, hx, hy, hu] at ep
          refine ⟨i + 1, by first | rfl | rw [w64 (by omega) (by have := HP2.out; omega)], by omega, by omega, ?_, ⟨HA7.out.below hY.out⟩, ⟨?_⟩, ⟨HL7.out.below hY.out⟩, ⟨bthen HB7.out hY.out⟩⟩
          · rw [e1, et, ← bs_append, ← bs_append]
            rfl
          · rw [e1, ep]
            exact HQ7.out.below hY.out
end Go.Proofs.YtkachkmmjlboeaaDoor.X

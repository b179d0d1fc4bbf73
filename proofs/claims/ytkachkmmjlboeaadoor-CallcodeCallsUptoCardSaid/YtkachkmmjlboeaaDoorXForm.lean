/- callcode's form.read: contract by hand. Conditions: none. -/
import Derived.Test.YtkachkmmjlboeaaDoorXCall
namespace Go.Proofs.YtkachkmmjlboeaaDoor.X
open Go.RowKit Go.Proofs.YtkachkmmjlboeaaDoor.YAll Go.Proofs.YtkachkmmjlboeaaDoorW.PrintWords Go.Proofs.YtkachkmmjlboeaaDoorW.PrintLast Go.Proofs.YtkachkmmjlboeaaDoorW.PrintMore
set_option linter.unusedVariables false
set_option linter.unusedSimpArgs false

/-- A row of texts. -/
def TxtAt (w : World) (B : Option Addr) (ws : List (List UInt8)) : Prop := ws ≠ [] → ∃ b o, B = some ⟨b, o, none⟩ ∧ b < w.heap.size ∧ ∀ j x, ws[j]? = some x → w.cell? ⟨b, o + j, none⟩ = some (.string (bs x))
theorem TxtAt.below {w w' : World} {B : Option Addr} {ws : List (List UInt8)} (h : TxtAt w B ws) (hb : Below w.heap.size w w') : TxtAt w' B ws := fun hn => by
  obtain ⟨b, o, rfl, hl, hc⟩ := h hn
  exact ⟨b, o, rfl, Nat.lt_of_lt_of_le hl hb.size, fun j x hj => pw_cell_below hb (hc j x hj)⟩
theorem CallAt.set5 {w : World} {g : Nat} {c : List Int} (h : CallAt w g c) (hl : c.length = 5) (y0 y1 y2 y3 y4 : Int) : CallAt (((((w.setCell ⟨g, 0, none⟩ (.int .i64 y0)).setCell ⟨g, 1, none⟩ (.int .i64 y1)).setCell ⟨g, 2, none⟩ (.int .i64 y2)).setCell ⟨g, 3, none⟩ (.int .i64 y3)).setCell ⟨g, 4, none⟩ (.int .i64 y4)) g [y0, y1, y2, y3, y4] := by
  obtain ⟨a, b, d, e, f, rfl⟩ := list5 _ hl
  exact ((((h.set 0 y0).set 1 y1).set 2 y2).set 3 y3).set 4 y4
theorem below5 {w0 w : World} {g : Nat} (h : Below w0.heap.size w0 w) (hg : w0.heap.size ≤ g) (y0 y1 y2 y3 y4 : Value) : Below w0.heap.size w0 (((((w.setCell ⟨g, 0, none⟩ y0).setCell ⟨g, 1, none⟩ y1).setCell ⟨g, 2, none⟩ y2).setCell ⟨g, 3, none⟩ y3).setCell ⟨g, 4, none⟩ y4) := ((((h.setCell hg _).setCell hg _).setCell hg _).setCell hg _).setCell hg _
def zero5 : List Int := [0, 0, 0, 0, 0]
def rdF : List Nat → List (List UInt8) → List Int → List Int × Bool
  | [], _, q => (q, true)
  | _ :: _, [], _ => (zero5, false)
  | p :: ps, w :: ws, q => if (rdV w).2 then rdF ps ws (q.set (p + 1) (rdV w).1) else (zero5, false)
def readF (kd : Int) (ps : List Nat) (ws : List (List UInt8)) : List Int × Bool := if ws.length = ps.length then rdF ps ws [kd, 0, 0, 0, 0] else (zero5, false)
theorem rdF_next (ps : List Nat) (ws : List (List UInt8)) (q : List Int) (i : Nat) (h : i < ps.length) (h2 : i < ws.length) : rdF (ps.drop i) (ws.drop i) q = if (rdV ws[i]).2 then rdF (ps.drop (i + 1)) (ws.drop (i + 1)) (q.set (ps[i] + 1) (rdV ws[i]).1) else (zero5, false) := by
  rw [List.drop_eq_getElem_cons h, List.drop_eq_getElem_cons h2]
  conv => lhs; unfold rdF
def FormPost (w : World) (r : List Int × Bool) (e : Ending) (w' : World) : Prop := e = .returned (.tuple #[.agg (r.1.map (Value.int .i64)).toArray, .bool r.2]) ∧ Below w.heap.size w w'
theorem form_res {fn : Func} (tmps : Array Value) (w : World) (g : Nat) (q : List Int) (h : fn.results = #[.cell 6 32, .tmp 7]) (hp : tmps.getD 6 undef = .pointer (some ⟨g, 0, none⟩)) (hq : CallAt w g q) (hl : q.length = 5) : (results fn tmps).run Tryd.prog w = .ok (.tuple #[.agg (q.map (Value.int .i64)).toArray, tmps.getD 7 undef]) w := by
  have hi : (Tryd.prog.info? 32).map (·.size) = some 5 := by kernel_rfl
  obtain ⟨fl, hu⟩ : ∃ fl, Tryd.prog.underlying 32 = some (.struct fl) := ⟨_, Tryd.underlying32⟩
  exact results_list (rs := [.cell 6 32, .tmp 7]) h (by simp) (.cell g _ _ (0, 0) _ hp hq hu rfl (by rw [hi]; simp [hl]) (.tmp .nil))
set_option maxRecDepth 100000 in
set_option maxHeartbeats 2000000 in
theorem form_ne (s : ByteArray) (A : Option Addr) (ps : List Nat) (kd : Int) (B : Option Addr) (ws : List (List UInt8)) (m : Nat) (w : World) (hl2 : ws.length ≤ 3000000) (hp2 : ps.length ≤ 2) (hne : ws.length ≠ ps.length) :
    Calls Tryd.prog 32 #[.agg #[.string s, .slice A ps.length ps.length], .int .i64 kd, .slice B ws.length m] w (FormPost w (zero5, false)) := by
  have b0 : ((ws.length : Int) == (ps.length : Int)) = false := by simp; omega
  have b1 : ((ws.length : Int) != (ps.length : Int)) = true := by simp; omega
  have b2 : ¬ ((ws.length : Int) = (ps.length : Int)) := by omega
  have HX := Aside0.mk (And.intro hl2 (And.intro hp2 hne))
  clear hl2 hp2 hne
  go_enter Tryd.func32, Tryd.ntmps32
  go_wp2_with fail
  (try simp only [Exit.inBlock, Exit.then])
  refine bodyPost_ret (form_res _ _ (w.heap.size + 1) zero5 rfl rfl (blk_alloc (blk_newq _ _ (size_al _ _).symm) _) rfl) rfl ?_
  exact ⟨rfl, ballo (ballo (ballo (Below.refl _ _) _) _) _⟩
set_option maxRecDepth 100000 in
set_option maxHeartbeats 2000000 in
theorem form_eq (s : ByteArray) (A : Option Addr) (ps : List Nat) (kd : Int) (B : Option Addr) (ws : List (List UInt8)) (m : Nat) (w : World) (hP : PtsAt w A ps) (hp4 : ∀ p ∈ ps, p < 4) (hW : TxtAt w B ws) (hp2 : ps.length ≤ 2) (hne : ws.length = ps.length) :
    Calls Tryd.prog 32 #[.agg #[.string s, .slice A ps.length ps.length], .int .i64 kd, .slice B ws.length m] w (FormPost w (rdF ps ws [kd, 0, 0, 0, 0])) := by
  rw [hne]
  have HX := Aside0.mk (And.intro hP (And.intro hp4 (And.intro hW (And.intro hp2 hne))))
  clear hP hp4 hW hp2 hne
  go_enter Tryd.func32, Tryd.ntmps32
  go_wp2_with fail
  have Q6 : CallAt ((((w.alloc (Obj.cells #[.string s, .slice A ps.length ps.length] 59)).alloc (Obj.cells #[.int .i64 0, .int .i64 0, .int .i64 0, .int .i64 0, .int .i64 0] 32)).alloc (Obj.cells #[.int .i64 kd, .int .i64 0, .int .i64 0, .int .i64 0, .int .i64 0] 32))) (w.heap.size + 1) zero5 := blk_alloc (blk_newq _ _ (size_al _ _).symm) _
  have Q8 : CallAt ((((w.alloc (Obj.cells #[.string s, .slice A ps.length ps.length] 59)).alloc (Obj.cells #[.int .i64 0, .int .i64 0, .int .i64 0, .int .i64 0, .int .i64 0] 32)).alloc (Obj.cells #[.int .i64 kd, .int .i64 0, .int .i64 0, .int .i64 0, .int .i64 0] 32))) (w.heap.size + 1 + 1) [kd, 0, 0, 0, 0] := blk_newq _ _ (by rw [size_al, size_al])
  have B0 := ballo (ballo (ballo (Below.refl w.heap.size w) (Obj.cells #[.string s, .slice A ps.length ps.length] 59)) (Obj.cells #[.int .i64 0, .int .i64 0, .int .i64 0, .int .i64 0, .int .i64 0] 32)) (Obj.cells #[.int .i64 kd, .int .i64 0, .int .i64 0, .int .i64 0, .int .i64 0] 32)
  generalize (((w.alloc (Obj.cells #[.string s, .slice A ps.length ps.length] 59)).alloc (Obj.cells #[.int .i64 0, .int .i64 0, .int .i64 0, .int .i64 0, .int .i64 0] 32)).alloc (Obj.cells #[.int .i64 kd, .int .i64 0, .int .i64 0, .int .i64 0, .int .i64 0] 32)) = w6 at *
  have hq : w.heap.size ≤ w.heap.size + 1 ∧ w.heap.size ≤ w.heap.size + 1 + 1 ∧ w.heap.size + 1 ≠ w.heap.size + 1 + 1 := by omega
  generalize hq8 : w.heap.size + 1 + 1 = q8 at *
  generalize hq6 : w.heap.size + 1 = q6 at *
  have L1 := Aside0.mk Q6
  have L2 := Aside0.mk Q8
  have L3 := Aside0.mk B0
  have HQ0 := Aside0.mk hq
  clear Q6 Q8 B0 hq hq6 hq8
  have hn0 : (0 : Int) ≤ (ps.length : Int) := by omega
  go_loopg [25] ps.length (fun kq v25 w' => ∃ (i : Int) (q : List Int), v25 = .int .i64 i ∧ 0 ≤ i ∧ i + (kq : Int) = (ps.length : Int) ∧ Aside0 (CallAt w' q6 zero5) ∧ Aside0 (CallAt w' q8 q) ∧ Aside0 (q.length = 5) ∧ Aside0 (rdF (ps.drop i.toNat) (ws.drop i.toNat) q = rdF ps ws [kd, 0, 0, 0, 0]) ∧ Aside0 (Below w.heap.size w w'))
  case atStart => exact ⟨0, [kd, 0, 0, 0, 0], rfl, Int.le_refl _, by omega, L1, L2, ⟨rfl⟩, ⟨rfl⟩, L3⟩
  case round =>
    obtain ⟨i, q, rfl, hi0, hi, H6, H8, H5, HR, HB⟩ := hrel
    clear L1 L2 L3
    cases gk with
    | zero =>
      have hlt : decide (i < (ps.length : Int)) = false := decide_eq_false (by omega)
      obtain ⟨y0, y1, y2, y3, y4, rfl⟩ := list5 _ H5.out
      obtain ⟨q0, q1, q2, q3, q4⟩ := H8.out.five
      obtain ⟨z0, z1, z2, z3, z4⟩ := CallAt.five H6.out
      have zf := H6.out.frozen
      go_wp2_with fail
      (try simp only [Exit.inBlock, Exit.then])
      refine bodyPost_ret (form_res _ _ q6 [y0, y1, y2, y3, y4] rfl rfl (H6.out.set5 rfl y0 y1 y2 y3 y4) rfl) rfl ?_
      have e1 : ps.drop i.toNat = [] := List.drop_eq_nil_of_le (by omega)
      have hr := HR.out
      rw [e1] at hr
      rw [← hr]
      exact ⟨rfl, below5 HB.out HQ0.out.1 _ _ _ _ _⟩
    | succ gk =>
      have hlt : decide (i < (ps.length : Int)) = true := decide_eq_true (by omega)
      obtain ⟨hP, hp4, hW, hp2, hne⟩ := HX.out
      have hin : i.toNat < ps.length := by omega
      have hin2 : i.toNat < ws.length := by omega
      obtain ⟨b, rfl, hb⟩ := hP (by intro e; rw [e] at hin; simp at hin)
      obtain ⟨b2, o2, rfl, hb2, hw2⟩ := hW (by intro e; rw [e] at hin2; simp at hin2)
      obtain ⟨p, hp⟩ : ∃ p, ps[i.toNat] = p := ⟨_, rfl⟩
      obtain ⟨t, ht⟩ : ∃ t, ws[i.toNat] = t := ⟨_, rfl⟩
      have hpp : p < 4 := by rw [← hp]; exact hp4 _ (List.getElem_mem _)
      have cb : wr.cell? ⟨b, i.toNat, none⟩ = some (.int .i64 (p : Int)) := pw_cell_below HB.out (by rw [blk_cell hb]; simp [hin, hp])
      have cw : wr.cell? ⟨b2, o2 + i.toNat, none⟩ = some (.string (bs t)) := pw_cell_below HB.out (hw2 _ _ (by rw [List.getElem?_eq_getElem hin2, ht]))
      have HN := Aside0.mk (rdF_next ps ws q i.toNat hin hin2)
      rw [hp, ht] at HN
      have HNE := Aside0.mk hne
      have HP2 := Aside0.mk hp2
      clear hP hp4 hW hp2 hne hb hw2 hp ht HX
      cases hok : (rdV t).2 with
      | false =>
        obtain ⟨z0, z1, z2, z3, z4⟩ := CallAt.five H6.out
        have zf := H6.out.frozen
        go_wp2_with (go_at_call 8; go_loud (refine (read_calls t _).mono ?_; rintro e w2 ⟨rfl, hB2⟩; simp only [hok]; have Z := CallAt.five (H6.out.below hB2); obtain ⟨z0', z1', z2', z3', z4'⟩ := Z; have zf2 := (H6.out.below hB2).frozen))
        (try simp only [Exit.inBlock, Exit.then])
        refine bodyPost_ret (form_res _ _ q6 zero5 rfl rfl ((H6.out.below hB2).set5 rfl 0 0 0 0 0) rfl) rfl ?_
        have hr := HR.out
        rw [HN.out, hok, if_neg (by decide)] at hr
        rw [← hr]
        exact ⟨rfl, below5 (bthen HB.out hB2) HQ0.out.1 _ _ _ _ _⟩
      | true =>
        go_wp2_with (first
          | (go_at_call 8; go_loud (refine (read_calls t _).mono ?_; rintro e w2 ⟨rfl, hB2⟩; simp only [hok]; have h8 := (H8.out.below hB2).cell (p + 1) (by rw [H5.out]; omega); have f8 := (H8.out.below hB2).frozen (p + 1)))
          | (go_at_call 27; refine (of_calls p hpp _ _).mono ?_; rintro e w1 ⟨rfl, rfl⟩))
        go_roundg gk
        case measure => omega
        case rel =>
          have e1 : (i + 1).toNat = i.toNat + 1 := by omega
          have hr := HR.out
          rw [HN.out, hok, if_pos rfl] at hr
          have hp2 := HP2.out
          exact ⟨i + 1, q.set (p + 1) (rdV t).1, by rw [w64 (by omega) (by omega)], by omega, by omega, ⟨(H6.out.below hB2).far (p + 1) _ HQ0.out.2.2⟩, ⟨(H8.out.below hB2).set (p + 1) _⟩, ⟨by rw [List.length_set]; exact H5.out⟩, ⟨by rw [e1]; exact hr⟩, ⟨(bthen HB.out hB2).setCell HQ0.out.2.1 _⟩⟩
theorem form_calls (s : ByteArray) (A : Option Addr) (ps : List Nat) (kd : Int) (B : Option Addr) (ws : List (List UInt8)) (m : Nat) (w : World) (hP : PtsAt w A ps) (hp4 : ∀ p ∈ ps, p < 4) (hW : TxtAt w B ws) (hp2 : ps.length ≤ 2) (hl2 : ws.length ≤ 3000000) :
    Calls Tryd.prog 32 #[.agg #[.string s, .slice A ps.length ps.length], .int .i64 kd, .slice B ws.length m] w (FormPost w (readF kd ps ws)) := by
  unfold readF
  by_cases h : ws.length = ps.length
  · rw [if_pos h]
    exact form_eq s A ps kd B ws m w hP hp4 hW hp2 h
  · rw [if_neg h]
    exact form_ne s A ps kd B ws m w hl2 hp2 h
end Go.Proofs.YtkachkmmjlboeaaDoor.X

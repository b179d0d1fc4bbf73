/- callcode.Call: contract by hand. Conditions: none. -/
import Derived.Test.YtkachkmmjlboeaaDoorXOf
namespace Go.Proofs.YtkachkmmjlboeaaDoor.X
open Go.RowKit Go.Proofs.YtkachkmmjlboeaaDoor.YAll Go.Proofs.YtkachkmmjlboeaaDoorW.PrintWords Go.Proofs.YtkachkmmjlboeaaDoorW.PrintLast Go.Proofs.YtkachkmmjlboeaaDoorW.PrintMore
set_option linter.unusedVariables false
set_option linter.unusedSimpArgs false

/-- A row of texts of the call's own. -/
def Ws (w : World) (base : Nat) (v : Value) (ls : List (List UInt8)) : Prop := Kd.R Kd.string 9 w base (fun _ => True) v (ls.map bs)
theorem join_calls (sp : UInt8) (v : Value) (ls : List (List UInt8)) (base : Nat) (w : World) (h : Ws w base v ls) (hne : ls ≠ []) (hc : ls.length ≤ 140737488355328) (hlen : (jns sp ls).length ≤ 140737488355328) :
    Calls Tryd.prog 28 #[v, .string ⟨#[sp]⟩] w fun e w' => e = .returned (.string (bs (jns sp ls))) ∧ Below w.heap.size w w' := by
  have hp : 0 < (ls.map bs).length := by rw [List.length_map]; exact List.length_pos_iff.2 hne
  obtain ⟨g, cap, rfl, hb, hl, cells, hcl⟩ := Kd.R_form h hp
  obtain ⟨hn, hcap, hC⟩ := Kd.R_reads' h
  have e1 : (ls.map bs).map (·.data.toList) = ls := by
    rw [List.map_map]
    conv => rhs; rw [← List.map_id ls]
    apply List.map_congr_left
    intro x _
    simp [bs]
  have hj := Tryd.strings_Join g 0 cap (ls.map bs) ⟨#[sp]⟩ w (fun j x hx => by
    obtain ⟨hA, hB, hD⟩ := hC
    obtain ⟨a, ha, hcell⟩ := hD (by simpa using hp)
    obtain rfl := Option.some.inj ha
    obtain ⟨cs, h1, h2, h3⟩ := hcell j x hx
    have hk : cs = [.string x] := h2
    subst hk
    have := h3 0 _ rfl
    rw [Addr.add_lit, show (0 : Nat) + (j * Kd.string.sz + 0) = 0 + j by rw [show Kd.string.sz = 1 from rfl]; omega] at this
    exact this) hl (by rw [List.length_map]; exact hc) hcap (by rw [e1]; show (Lib.join ls [sp]).length ≤ _; rw [jns_join]; exact hlen)
  rw [e1] at hj
  have e2 : Lib.join ls [sp] = jns sp ls := jns_join sp ls
  have e3 : (⟨(Lib.join ls (ByteArray.data ⟨#[sp]⟩).toList).toArray⟩ : ByteArray) = bs (jns sp ls) := by
    show bs (Lib.join ls [sp]) = _
    rw [e2]
  rw [e3] at hj
  exact hj
theorem ws_new (w : World) (base : Nat) (hb : base ≤ w.heap.size) (l : List UInt8) : Ws (w.alloc (.cells #[.string (bs l)] 9)) base (.slice (some ⟨w.heap.size, 0, none⟩) 1 1) [l] :=
  Kd.R_of_own (h1 := fun _ => rfl) ⟨rfl, Or.inr ⟨w.heap.size, 1, #[.string (bs l)], rfl, hb, blk_new w _, Nat.le_refl _, by decide, rfl, rfl⟩⟩ (fun _ _ => trivial)
theorem CallAt.grown {w w' : World} {b base : Nat} {c : List Int} {v : Value} {ls : List (List UInt8)} (h : CallAt w b c) (hR : Ws w base v ls) (hg : w.grownBy w' v.ownBlock) : CallAt w' b c := blk_grown h hg (Kd.R_ne hR h (by decide))
theorem PtsAt.grownW {w w' : World} {base : Nat} {A : Option Addr} {ps : List Nat} {v : Value} {ls : List (List UInt8)} (h : PtsAt w A ps) (hR : Ws w base v ls) (hg : w.grownBy w' v.ownBlock) : PtsAt w' A ps := h.grown hg (Kd.R_typed hR)
end Go.Proofs.YtkachkmmjlboeaaDoor.X
